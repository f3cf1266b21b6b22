/- For all gaps and shifts the program's GapsAfter answers as the reference's does, in memory of its own. No condition. -/
import Derived.Test.YtcgcmnebenllcaaQFnExactGapsAfterx4
import Derived.Test.YtcgcmnebenllcaaBase
namespace Go.Proofs.Ytcgcmnebenllcaa.Pure
open Go Go.RowKit Go.Proofs.Ytcgcmnebenllcaa.QFnExactGapsAfter Go.Proofs.YtcgcmnebenllcaaW.PrintWords Go.Proofs.YtcgcmnebenllcaaW.PrintLast Go.Proofs.YtcgcmnebenllcaaW.PrintMore Go.Proofs.Ytcgcmnebenllcaa.Base
set_option linter.unusedVariables false
set_option linter.unusedSimpArgs false

def okS (l : List Int) : Bool := decide (2 ≤ (l.length : Int) ∧ (l.length : Int) ≤ 24) && l.all fun x => decide (-1000 ≤ x ∧ x ≤ 1000)
theorem okS_says {l : List Int} (h : okS l = true) : 2 ≤ l.length ∧ l.length ≤ 24 ∧ (∀ x ∈ l, -1000 ≤ x ∧ x ≤ 1000) ∧ ∀ i : Int, 0 ≤ i → i < l.length → -1000 ≤ rd l i ∧ rd l i ≤ 1000 := by
  unfold okS at h
  simp only [Bool.and_eq_true, decide_eq_true_eq, List.all_eq_true] at h
  exact ⟨by omega, by omega, h.2, fun i h0 h1 => h.2 _ (rd_in l i h0 h1)⟩

/-- The gap of a seam after shifts. -/
def gap (g s : List Int) (i : Int) : Int := rd g i + rd s ((i + 1) % (g.length : Int)) - rd s i
def okSh (g s : List Int) : Bool := decide ((s.length : Int) = (g.length : Int)) && s.all fun x => decide (-50 ≤ x ∧ x ≤ 50)
theorem okSh_says {g s : List Int} (h : okSh g s = true) : s.length = g.length ∧ ∀ i : Int, 0 ≤ i → i < s.length → -50 ≤ rd s i ∧ rd s i ≤ 50 := by
  unfold okSh at h
  simp only [Bool.and_eq_true, decide_eq_true_eq, List.all_eq_true] at h
  exact ⟨by omega, fun i h0 h1 => h.2 _ (rd_in s i h0 h1)⟩
def gapsR (g s : List Int) : List Int × Int := if okS g = true then (if okSh g s = true then (from_ (gap g s) 0 g.length, 0) else ([], 2)) else ([], 1)

theorem In_ (a b c : Int) : spec_l00In.f a b c = some (decide (b ≤ a ∧ a ≤ c)) := by
  unfold spec_l00In.f
  by_cases h : a ≥ b
  · rw [if_pos h]; simp [show b ≤ a from h]
  · rw [if_neg h]; simp [show ¬ b ≤ a from h]

theorem specOk_l (l : List Int) (hl : l.length ≤ 1048576) : ∀ (d k : Nat) (i : Int), (l.length : Int) - i = d → 0 ≤ i → d < k → spec_l19Ok.l0 k l i = some ((l.drop i.toNat).all (fun x => decide (-1000 ≤ x ∧ x ≤ 1000)) && decide (2 ≤ (l.length : Int) ∧ (l.length : Int) ≤ 24)) := by
  intro d
  induction d with
  | zero =>
    intro k i hd h0 hk
    obtain ⟨k, rfl⟩ : ∃ m, k = m + 1 := ⟨k - 1, by omega⟩
    simp only [spec_l19Ok.l0]; rw [if_neg (by omega), In_, List.drop_eq_nil_of_le (by omega)]; simp
  | succ d ih =>
    intro k i hd h0 hk
    obtain ⟨k, rfl⟩ : ∃ m, k = m + 1 := ⟨k - 1, by omega⟩
    simp only [spec_l19Ok.l0]
    rw [if_pos (by omega), if_pos h0, In_, drop_rd l i h0 (by omega), w64 (by omega) (by omega), ih k (i + 1) (by omega) (by omega) (by omega)]
    simp only [Option.bind_some, List.all_cons]
    by_cases c : -1000 ≤ rd l i ∧ rd l i ≤ 1000
    · simp [c]
    · simp [c]
theorem SpecOkS_ (l : List Int) (hl : l.length ≤ 1048576) (k : Nat) (hk : 1048577 ≤ k) : spec_l19Ok.f k l = some (okS l) := by
  unfold spec_l19Ok.f okS
  rw [specOk_l l hl l.length k 0 (by omega) (by omega) (by omega)]
  simp [Bool.and_comm]

theorem spec19After_l (g s : List Int) (hg : okS g = true) (hs : okSh g s = true) : ∀ (d k : Nat) (i : Int) (a : List Int), (g.length : Int) - i = d → 0 ≤ i → (a.length : Int) ≤ i → d < k → spec_l19After.l0 k g s a i = some (a ++ from_ (gap g s) i d) := by
  obtain ⟨g1, g2, g3, g4⟩ := okS_says hg
  obtain ⟨s1, s2⟩ := okSh_says hs
  intro d
  induction d with
  | zero =>
    intro k i a hd h0 ha hk
    obtain ⟨k, rfl⟩ : ∃ m, k = m + 1 := ⟨k - 1, by omega⟩
    simp only [spec_l19After.l0]; rw [if_neg (by omega)]; simp [from_]
  | succ d ih =>
    intro k i a hd h0 ha hk
    obtain ⟨k, rfl⟩ : ∃ m, k = m + 1 := ⟨k - 1, by omega⟩
    have m0 : 0 ≤ (i + 1) % (g.length : Int) := Int.emod_nonneg _ (by omega)
    have m1 : (i + 1) % (g.length : Int) < (g.length : Int) := Int.emod_lt_of_pos _ (by omega)
    have x1 := g4 i h0 (by omega)
    have x2 := s2 i h0 (by omega)
    have x3 := s2 _ m0 (by omega)
    simp only [spec_l19After.l0]
    rw [s1, w64 (n := i + 1) (by omega) (by omega), tmod_eq _ _ (by omega), if_pos (show 0 ≤ i + 1 by omega)]
    rw [if_pos (by omega), if_pos h0, if_neg (by omega), if_pos m0, if_pos m1, if_pos (by omega), if_pos (by omega), w64 (n := rd g i + rd s ((i + 1) % (g.length : Int))) (by omega) (by omega), w64 (by omega) (by omega), ih k (i + 1) _ (by omega) (by omega) (by simp; omega) (by omega), from_succ]
    simp [gap]
theorem specGaps_l (g s : List Int) (hs : s.length ≤ 1048576) (hg : okS g = true) : ∀ (d k : Nat) (i : Int), (s.length : Int) - i = d → 0 ≤ i → d + 50 ≤ k → (∀ j : Int, 0 ≤ j → j < i → -50 ≤ rd s j ∧ rd s j ≤ 50) → spec_GapsAfter.l0 k g s i = some (if okSh g s = true then (from_ (gap g s) 0 g.length, 0) else ([], 2)) := by
  obtain ⟨g1, g2, g3, g4⟩ := okS_says hg
  intro d
  induction d with
  | zero =>
    intro k i hd h0 hk hp
    obtain ⟨k, rfl⟩ : ∃ m, k = m + 1 := ⟨k - 1, by omega⟩
    simp only [spec_GapsAfter.l0]; rw [if_neg (by omega)]
    have hall : s.all (fun x => decide (-50 ≤ x ∧ x ≤ 50)) = true := by
      rw [List.all_eq_true]; intro x hx
      obtain ⟨n, hn, rfl⟩ := List.getElem_of_mem hx
      have := hp n (by omega) (by omega)
      unfold rd at this
      rw [List.getD_eq_getElem?_getD, Int.toNat_natCast, List.getElem?_eq_getElem hn] at this
      simpa using this
    by_cases e : (s.length : Int) = (g.length : Int)
    · have ho : okSh g s = true := by unfold okSh; simp only [e, hall]; simp
      rw [if_pos e, if_pos ho]
      unfold spec_l19After.f
      rw [spec19After_l g s hg ho g.length k 0 [] (by omega) (by omega) (by simp) (by omega)]; simp
    · have ho : ¬ okSh g s = true := by unfold okSh; simp [e]
      rw [if_neg e, if_neg ho]
  | succ d ih =>
    intro k i hd h0 hk hp
    obtain ⟨k, rfl⟩ : ∃ m, k = m + 1 := ⟨k - 1, by omega⟩
    simp only [spec_GapsAfter.l0]
    rw [if_pos (by omega), if_pos h0, In_]; simp only [Option.bind_some, decide_eq_true_eq]
    by_cases c : -50 ≤ rd s i ∧ rd s i ≤ 50
    · rw [if_pos c, w64 (by omega) (by omega)]
      refine ih k (i + 1) (by omega) (by omega) (by omega) (fun j a b => ?_)
      by_cases e : j = i
      · subst e; exact c
      · exact hp j a (by omega)
    · rw [if_neg c]
      have ho : ¬ okSh g s = true := fun h => c ((okSh_says h).2 i h0 (by omega))
      rw [if_neg ho]
theorem SpecGaps_ (g s : List Int) (hl : g.length ≤ 1048576) (hs : s.length ≤ 1048576) (k : Nat) (hk : 1048700 ≤ k) : spec_GapsAfter.f k g s = some (gapsR g s) := by
  unfold spec_GapsAfter.f gapsR
  rw [SpecOkS_ g hl k (by omega)]; simp only [Option.bind_some]
  by_cases h : okS g = true
  · rw [if_pos h, if_pos h]; exact specGaps_l g s hs h s.length k 0 (by omega) (by omega) (by omega) (fun j a b => by omega)
  · rw [if_neg h, if_neg h]

theorem ImplOkS_ (l : List Int) : impl_ValidSeams.f l = some (okS l) := by
  unfold impl_ValidSeams.f impl_allWithin.f okS
  by_cases h1 : (l.length : Int) ≥ 2
  · by_cases h2 : (l.length : Int) ≤ 24
    · have e : decide (2 ≤ (l.length : Int) ∧ (l.length : Int) ≤ 24) = true := decide_eq_true ⟨h1, h2⟩
      rw [if_pos h1, if_pos h2, e]; simp
    · have e : decide (2 ≤ (l.length : Int) ∧ (l.length : Int) ≤ 24) = false := decide_eq_false (fun x => h2 x.2)
      rw [if_pos h1, if_neg h2, e]; simp
  · have e : decide (2 ≤ (l.length : Int) ∧ (l.length : Int) ≤ 24) = false := decide_eq_false (fun x => h1 x.1)
    rw [if_neg h1, e]; simp

theorem check_ (a b : Bool) : impl_check.f a b = some (if a = true then (if b = true then 0 else 2) else 1) := by
  unfold impl_check.f; cases a <;> cases b <;> rfl

theorem implGaps_l (g s : List Int) (hg : okS g = true) (hs : okSh g s = true) : ∀ (d k : Nat) (i : Int) (a : List Int), (g.length : Int) - i = d → 0 ≤ i → (a.length : Int) ≤ i → d < k → impl_GapsAfter.l0 k g s a g g.length i = some (a ++ from_ (gap g s) i d, 0) := by
  obtain ⟨g1, g2, g3, g4⟩ := okS_says hg
  obtain ⟨s1, s2⟩ := okSh_says hs
  intro d
  induction d with
  | zero =>
    intro k i a hd h0 ha hk
    obtain ⟨k, rfl⟩ : ∃ m, k = m + 1 := ⟨k - 1, by omega⟩
    simp only [impl_GapsAfter.l0]; rw [if_neg (by omega)]; simp [from_]
  | succ d ih =>
    intro k i a hd h0 ha hk
    obtain ⟨k, rfl⟩ : ∃ m, k = m + 1 := ⟨k - 1, by omega⟩
    have m0 : 0 ≤ (i + 1) % (g.length : Int) := Int.emod_nonneg _ (by omega)
    have m1 : (i + 1) % (g.length : Int) < (g.length : Int) := Int.emod_lt_of_pos _ (by omega)
    have x1 := g4 i h0 (by omega)
    have x2 := s2 i h0 (by omega)
    have x3 := s2 _ m0 (by omega)
    simp only [impl_GapsAfter.l0]
    rw [s1, w64 (n := i + 1) (by omega) (by omega), tmod_eq _ _ (by omega), if_pos (show 0 ≤ i + 1 by omega)]
    rw [if_pos (by omega), if_pos h0, if_pos (by omega), if_neg (by omega), if_pos m0, if_pos m1, if_pos (by omega), if_pos (by omega), w64 (n := rd g i + rd s ((i + 1) % (g.length : Int))) (by omega) (by omega), w64 (by omega) (by omega), ih k (i + 1) _ (by omega) (by omega) (by simp; omega) (by omega), from_succ]
    simp [gap]
theorem ImplGaps_ (g s : List Int) (k : Nat) (hk : 100 ≤ k) : impl_GapsAfter.f k g s = some (gapsR g s) := by
  obtain ⟨k, rfl⟩ : ∃ m, k = m + 1 := ⟨k - 1, by omega⟩
  unfold impl_GapsAfter.f gapsR
  rw [ImplOkS_ g]; simp only [Option.bind_some, check_, impl_allWithin.f, impl_GapsAfter.j0]
  by_cases h : okS g = true
  · by_cases e : (s.length : Int) = (g.length : Int)
    · by_cases hA : s.all (fun x => decide (-50 ≤ x ∧ x ≤ 50)) = true
      · have ho : okSh g s = true := by unfold okSh; simp only [e, hA]; simp
        obtain ⟨g1, g2, g3, g4⟩ := okS_says h
        rw [if_pos e]; simp only [h, hA, ho, if_true]
        rw [implGaps_l g s h ho g.length k 0 [] (by omega) (by omega) (by simp) (by omega)]; simp
      · have ho : ¬ okSh g s = true := by unfold okSh; simp only [Bool.and_eq_true]; exact fun x => hA x.2
        rw [if_pos e]; simp only [h, if_true, if_neg hA, if_neg ho]; simp
    · have ho : ¬ okSh g s = true := by unfold okSh; simp [e]
      rw [if_neg e]; simp only [h, if_true, if_neg ho]; simp
  · simp only [if_neg h]; split <;> simp

theorem toInts_l (l : List Int) (hl : l.length ≤ 1048576) : ∀ (d k : Nat) (i : Int) (a : List Int), (l.length : Int) - i = d → 0 ≤ i → a.length = l.length → (∀ j : Int, 0 ≤ j → j < i → rd a j = rd l j) → d < k → laws_toInt64S.l0 k l a i = some l := by
  intro d
  induction d with
  | zero =>
    intro k i a hd h0 ha hr hk
    obtain ⟨k, rfl⟩ : ∃ m, k = m + 1 := ⟨k - 1, by omega⟩
    simp only [laws_toInt64S.l0]; rw [if_neg (by omega)]
    congr 1
    exact rd_ext a l ha (fun j h1 h2 => hr j h1 (by omega))
  | succ d ih =>
    intro k i a hd h0 ha hr hk
    obtain ⟨k, rfl⟩ : ∃ m, k = m + 1 := ⟨k - 1, by omega⟩
    simp only [laws_toInt64S.l0]
    rw [if_pos (by omega), if_pos h0, if_pos (by omega), w64 (by omega) (by omega)]
    refine ih k (i + 1) _ (by omega) (by omega) (by simpa using ha) (fun j h1 h2 => ?_) (by omega)
    by_cases e : j = i
    · subst e; exact rd_same _ _ _ h0 (by omega)
    · rw [rd_other _ _ _ _ h0 h1 (by omega)]; exact hr j h1 (by omega)
theorem toInts_ (l : List Int) (hl : l.length ≤ 1048576) (k : Nat) (hk : 1048577 ≤ k) : laws_toInt64S.f k l = some l := by
  unfold laws_toInt64S.f
  rw [if_pos (by omega), if_pos (by simp; omega)]
  exact toInts_l l hl l.length k 0 _ (by omega) (by omega) (by simp) (fun j h1 h2 => by omega) (by omega)

theorem eqInts_l (l : List Int) (hl : l.length ≤ 1152921504606846976) : ∀ (d k : Nat) (i : Int), (l.length : Int) - i = d → 0 ≤ i → d < k → laws_eqInt64S.l0 k l l i = some true := by
  intro d
  induction d with
  | zero =>
    intro k i hd h0 hk
    obtain ⟨k, rfl⟩ : ∃ m, k = m + 1 := ⟨k - 1, by omega⟩
    simp only [laws_eqInt64S.l0]; rw [if_neg (by omega)]
  | succ d ih =>
    intro k i hd h0 hk
    obtain ⟨k, rfl⟩ : ∃ m, k = m + 1 := ⟨k - 1, by omega⟩
    simp only [laws_eqInt64S.l0]
    rw [if_pos (by omega), if_pos h0, if_pos (by omega), if_pos trivial, w64 (by omega) (by omega)]
    exact ih k (i + 1) (by omega) (by omega) (by omega)
theorem eqInts_ (l : List Int) (hl : l.length ≤ 1152921504606846976) (k : Nat) (hk : l.length < k) : laws_eqInt64S.f k l l = some true := by
  unfold laws_eqInt64S.f
  rw [if_pos rfl]; exact eqInts_l l hl l.length k 0 (by omega) (by omega) hk

theorem eqI_ (l : List Int) (hl : l.length ≤ 1048576) (k : Nat) (hk : 1048577 ≤ k) : laws_eqInt64S.f k l l = some true := eqInts_ l (by omega) k (by omega)

theorem rd_set_same (l : List Int) (i : Int) (v : Int) (h0 : 0 ≤ i) (h : i < l.length) : rd (l.set i.toNat v) i = v := by
  unfold rd; simp [List.getD_eq_getElem?_getD, List.getElem?_set, show i.toNat < l.length by omega]
theorem rd_set_other (l : List Int) (i j : Int) (v : Int) (h0 : 0 ≤ i) (h1 : 0 ≤ j) (h : i ≠ j) : rd (l.set i.toNat v) j = rd l j := by
  unfold rd; simp [List.getD_eq_getElem?_getD, List.getElem?_set, show ¬ i.toNat = j.toNat by omega]
theorem mark_l : ∀ (d k : Nat) (l : List Int) (i m : Int), (l.length : Int) - i = d → 0 ≤ i → l.length ≤ 1152921504606846976 → 0 ≤ m → m + d ≤ 4611686018427387904 → d < k → ∃ l', laws_markInt64S.l0 k l m i = some (m + d, l') ∧ l'.length = l.length ∧ (∀ j, i ≤ j → j < l.length → rd l' j = m + (j - i)) ∧ ∀ j, 0 ≤ j → j < i → rd l' j = rd l j := by
  intro d
  induction d with
  | zero =>
    intro k l i m hd h0 hl hm hm2 hk
    obtain ⟨k, rfl⟩ : ∃ m, k = m + 1 := ⟨k - 1, by omega⟩
    refine ⟨l, ?_, rfl, fun j h1 h2 => by omega, fun j _ _ => rfl⟩
    simp only [laws_markInt64S.l0]; rw [if_neg (by omega)]; simp
  | succ d ih =>
    intro k l i m hd h0 hl hm hm2 hk
    obtain ⟨k, rfl⟩ : ∃ m, k = m + 1 := ⟨k - 1, by omega⟩
    obtain ⟨l', h1, h2, h3, h4⟩ := ih k (l.set i.toNat m) (i + 1) (m + 1) (by simp; omega) (by omega) (by simpa using hl) (by omega) (by omega) (by omega)
    refine ⟨l', ?_, by simpa using h2, fun j g1 g2 => ?_, fun j g1 g2 => ?_⟩
    · simp only [laws_markInt64S.l0]
      rw [if_pos (by omega), if_pos h0, w64 (n := m + 1) (by omega) (by omega), w64 (n := i + 1) (by omega) (by omega), h1]
      congr 2; omega
    · by_cases e : j = i
      · subst e; rw [h4 j h0 (by omega), rd_set_same _ _ _ h0 (by omega)]; omega
      · rw [h3 j (by omega) (by simpa using g2)]; omega
    · rw [h4 j g1 (by omega), rd_set_other _ _ _ _ h0 g1 (by omega)]
theorem held_l (l : List Int) (hl : l.length ≤ 1152921504606846976) : ∀ (d k : Nat) (i m : Int), (l.length : Int) - i = d → 0 ≤ i → 0 ≤ m → m + d ≤ 4611686018427387904 → d < k → (∀ j, i ≤ j → j < l.length → rd l j = m + (j - i)) → laws_heldInt64S.l0 k l m i = some (m + d) := by
  intro d
  induction d with
  | zero =>
    intro k i m hd h0 hm hm2 hk hr
    obtain ⟨k, rfl⟩ : ∃ m, k = m + 1 := ⟨k - 1, by omega⟩
    simp only [laws_heldInt64S.l0]; rw [if_neg (by omega)]; simp
  | succ d ih =>
    intro k i m hd h0 hm hm2 hk hr
    obtain ⟨k, rfl⟩ : ∃ m, k = m + 1 := ⟨k - 1, by omega⟩
    simp only [laws_heldInt64S.l0]
    rw [if_pos (by omega), if_pos h0, if_pos (by rw [hr i (by omega) (by omega)]; omega), w64 (n := m + 1) (by omega) (by omega), w64 (n := i + 1) (by omega) (by omega), ih k (i + 1) (m + 1) (by omega) (by omega) (by omega) (by omega) (by omega) (fun j g1 g2 => by rw [hr j (by omega) g2]; omega)]
    congr 1; omega
theorem mark_held (l : List Int) (hl : l.length ≤ 1152921504606846976) (k : Nat) (hk : l.length < k) (k' : Nat) (hk' : l.length < k') (k'' : Nat) (hk'' : l.length < k'') : ∃ l', laws_markInt64S.f k l 1 = some (1 + (l.length : Int), l') ∧ laws_heldInt64S.f k' l' 1 = some (1 + (l.length : Int)) ∧ laws_heldInt64S.f k'' l' 1 = some (1 + (l.length : Int)) := by
  obtain ⟨l', h1, h2, h3, h4⟩ := mark_l l.length k l 0 1 (by omega) (by omega) hl (by omega) (by omega) hk
  have hh : ∀ k, l.length < k → laws_heldInt64S.l0 k l' 1 0 = some (1 + (l.length : Int)) := fun k hk => held_l l' (by omega) l.length k 0 1 (by omega) (by omega) (by omega) (by omega) hk (fun j g1 g2 => h3 j g1 (by omega))
  refine ⟨l', ?_, ?_, ?_⟩
  · unfold laws_markInt64S.f; exact h1
  · unfold laws_heldInt64S.f; exact hh k' hk'
  · unfold laws_heldInt64S.f; exact hh k'' hk''

theorem mkI_ (l : List Int) (hl : l.length ≤ 1048576) (m : Int) (h0 : 0 ≤ m) (h1 : m ≤ 1000000000) : ∃ l', ∀ k, 1048577 ≤ k → laws_markInt64S.f k l m = some (m + (l.length : Int), l') := by
  obtain ⟨l', h, _⟩ := mark_l l.length 1048577 l 0 m (by omega) (by omega) (by omega) (by omega) (by omega) (by omega)
  refine ⟨l', fun k hk => ?_⟩
  exact at_rounds (g := fun k => laws_markInt64S.f k l m) (fun k => laws_markInt64S.mono _ _ _) hk (by unfold laws_markInt64S.f; exact h)
theorem mkH_ (l : List Int) (hl : l.length ≤ 1048576) : ∃ l', (∀ k, 1048577 ≤ k → laws_markInt64S.f k l 1 = some (1 + (l.length : Int), l')) ∧ ∀ k, 1048577 ≤ k → laws_heldInt64S.f k l' 1 = some (1 + (l.length : Int)) := by
  obtain ⟨l', h1, h2, h3⟩ := mark_held l (by omega) 1048577 (by omega) 1048577 (by omega) 1048577 (by omega)
  refine ⟨l', fun k hk => ?_, fun k hk => ?_⟩
  · exact at_rounds (g := fun k => laws_markInt64S.f k l 1) (fun k => laws_markInt64S.mono _ _ _) hk h1
  · exact at_rounds (g := fun k => laws_heldInt64S.f k l' 1) (fun k => laws_heldInt64S.mono _ _ _) hk h2

theorem FnExactGapsAfter : laws_FnExactGapsAfter.Pure := by
  intro l s
  intros
  refine ⟨1048800, ?_⟩
  unfold laws_FnExactGapsAfter.f
  by_cases hb : (l.length : Int) > 1048576
  · rw [if_pos hb]
  by_cases hb2 : (s.length : Int) > 1048576
  · rw [if_neg hb, if_pos hb2]
  have hl : l.length ≤ 1048576 := by omega
  have hs : s.length ≤ 1048576 := by omega
  have hT := toInts_ l hl
  have hT2 := toInts_ s hs
  have hE := eqI_ l hl
  have hE2 := eqI_ s hs
  have hS := SpecGaps_ l s hl hs
  have hI := ImplGaps_ l s
  have hrl : (gapsR l s).1.length ≤ 1048576 := by
    unfold gapsR
    split
    · split
      · simp only [from_len]; omega
      · simp
    · simp
  generalize gapsR l s = r at hS hI hrl
  obtain ⟨R, c⟩ := r
  have hER := eqI_ R hrl
  obtain ⟨l', hM⟩ := mkI_ l hl 1 (by omega) (by omega)
  obtain ⟨s', hM2⟩ := mkI_ s hs (1 + (l.length : Int)) (by omega) (by omega)
  obtain ⟨R', hMR, hH⟩ := mkH_ R hrl
  have n1 : ¬ (1 + (l.length : Int) + (s.length : Int) < 0) := by omega
  have n2 : ¬ (1 + (R.length : Int) < 0) := by omega
  rw [if_neg hb, if_neg hb2, hT _ (by omega)]; simp only [Option.bind_some]
  rw [hT2 _ (by omega)]; simp only [Option.bind_some]
  rw [hS _ (by omega)]; simp only [Option.bind_some]
  rw [hI _ (by omega)]; simp only [Option.bind_some]
  rw [hER _ (by omega)]; simp only [Option.bind_some, if_true, laws_FnExactGapsAfter.j0, bne_self_eq_false, Bool.false_eq_true, if_false]
  rw [hT _ (by omega)]; simp only [Option.bind_some]
  rw [hE _ (by omega)]; simp only [Option.bind_some, if_true]
  rw [hT2 _ (by omega)]; simp only [Option.bind_some]
  rw [hE2 _ (by omega)]; simp only [Option.bind_some, if_true]
  rw [hM _ (by omega)]; simp only [Option.bind_some]
  rw [hM2 _ (by omega)]; simp only [Option.bind_some]
  rw [if_neg n1, hER _ (by omega)]; simp only [Option.bind_some, if_true, laws_FnExactGapsAfter.j1, bne_self_eq_false, Bool.false_eq_true, if_false]
  rw [hMR _ (by omega)]; simp only [Option.bind_some]
  rw [hH _ (by omega)]; simp only [Option.bind_some]
  rw [if_neg n2]; simp only [if_true]; rw [hT _ (by omega)]; simp only [Option.bind_some]
  rw [hT2 _ (by omega)]; simp only [Option.bind_some]
  rw [hI _ (by omega)]; simp only [Option.bind_some]
  rw [hER _ (by omega)]; simp only [Option.bind_some, if_true, laws_FnExactGapsAfter.j2, bne_self_eq_false, Bool.false_eq_true, if_false]
  rw [hH _ (by omega)]; simp only [Option.bind_some]
  rw [if_neg n2]; simp

end Go.Proofs.Ytcgcmnebenllcaa.Pure
