/- For all lists of gaps the program's EvenGaps answers as the reference's does, in memory of its own. No condition. -/
import Derived.Test.YtcgcmnebenllcaaQFnExactEvenGapsx3
import Derived.Test.YtcgcmnebenllcaaBase
namespace Go.Proofs.Ytcgcmnebenllcaa.Pure
open Go Go.RowKit Go.Proofs.Ytcgcmnebenllcaa.QFnExactEvenGaps Go.Proofs.YtcgcmnebenllcaaW.PrintWords Go.Proofs.YtcgcmnebenllcaaW.PrintLast Go.Proofs.YtcgcmnebenllcaaW.PrintMore Go.Proofs.Ytcgcmnebenllcaa.Base
set_option linter.unusedVariables false
set_option linter.unusedSimpArgs false

def okS (l : List Int) : Bool := decide (2 ≤ (l.length : Int) ∧ (l.length : Int) ≤ 24) && l.all fun x => decide (-1000 ≤ x ∧ x ≤ 1000)
theorem okS_says {l : List Int} (h : okS l = true) : 2 ≤ l.length ∧ l.length ≤ 24 ∧ (∀ x ∈ l, -1000 ≤ x ∧ x ≤ 1000) ∧ ∀ i : Int, 0 ≤ i → i < l.length → -1000 ≤ rd l i ∧ rd l i ≤ 1000 := by
  unfold okS at h
  simp only [Bool.and_eq_true, decide_eq_true_eq, List.all_eq_true] at h
  exact ⟨by omega, by omega, h.2, fun i h0 h1 => h.2 _ (rd_in l i h0 h1)⟩

/-- Shares of a sum: the greater ones first. -/
def share (s n i : Int) : Int := if i < s - s / n * n then s / n + 1 else s / n
theorem share_div (s n : Int) (h : 1 ≤ n) : 0 ≤ s - s / n * n ∧ s - s / n * n < n := by
  have a := Int.ediv_mul_le s (b := n) (by omega)
  have b := Int.lt_ediv_add_one_mul_self s (b := n) (by omega)
  rw [Int.add_mul, Int.one_mul] at b
  omega

theorem In_ (a b c : Int) : spec_l00In.f a b c = some (decide (b ≤ a ∧ a ≤ c)) := by
  unfold spec_l00In.f
  by_cases h : a ≥ b
  · rw [if_pos h]; simp [show b ≤ a from h]
  · rw [if_neg h]; simp [show ¬ b ≤ a from h]

theorem specOk_l (l : List Int) (hl : l.length ≤ 1048576) : ∀ (d k : Nat) (i : Int), (l.length : Int) - i = d → 0 ≤ i → d < k → spec_l19Ok.l0 k l i = some ((l.drop i.toNat).all (fun x => decide (-1000 ≤ x ∧ x ≤ 1000)) && decide (2 ≤ (l.length : Int) ∧ (l.length : Int) ≤ 24)) := by
  intro d
  induction d with
  | zero =>
    intro k i hd h0 hk
    obtain ⟨k, rfl⟩ : ∃ m, k = m + 1 := ⟨k - 1, by omega⟩
    simp only [spec_l19Ok.l0]; rw [if_neg (by omega), In_, List.drop_eq_nil_of_le (by omega)]; simp
  | succ d ih =>
    intro k i hd h0 hk
    obtain ⟨k, rfl⟩ : ∃ m, k = m + 1 := ⟨k - 1, by omega⟩
    simp only [spec_l19Ok.l0]
    rw [if_pos (by omega), if_pos h0, In_, drop_rd l i h0 (by omega), w64 (by omega) (by omega), ih k (i + 1) (by omega) (by omega) (by omega)]
    simp only [Option.bind_some, List.all_cons]
    by_cases c : -1000 ≤ rd l i ∧ rd l i ≤ 1000
    · simp [c]
    · simp [c]
theorem SpecOkS_ (l : List Int) (hl : l.length ≤ 1048576) (k : Nat) (hk : 1048577 ≤ k) : spec_l19Ok.f k l = some (okS l) := by
  unfold spec_l19Ok.f okS
  rw [specOk_l l hl l.length k 0 (by omega) (by omega) (by omega)]
  simp [Bool.and_comm]

/-- A sum as the machine reckons it. -/
def wsum (l : List Int) (a : Int) : Int := l.foldl (fun s x => wrap64 (s + x)) a
theorem wsum_is (B : Int) (hB : 0 ≤ B) : ∀ (l : List Int) (a : Int), (∀ x ∈ l, -B ≤ x ∧ x ≤ B) → -9000000000000000000 + B * l.length ≤ a → a + B * l.length ≤ 9000000000000000000 → wsum l a = a + l.sum ∧ -(B * l.length) ≤ l.sum ∧ l.sum ≤ B * l.length
  | [], a, _, _, _ => by simp [wsum]
  | x :: l, a, hx, h1, h2 => by
    have hxb := hx x (by simp)
    have e : B * ((x :: l).length : Int) = B * (l.length : Int) + B := by simp [Int.mul_add]
    have hn : 0 ≤ B * (l.length : Int) := Int.mul_nonneg hB (by omega)
    have ih := wsum_is B hB l (a + x) (fun y hy => hx y (by simp [hy])) (by omega) (by omega)
    refine ⟨?_, ?_, ?_⟩
    · unfold wsum at ih ⊢; rw [List.foldl_cons, w64 (by omega) (by omega), ih.1, List.sum_cons]; omega
    · rw [List.sum_cons]; omega
    · rw [List.sum_cons]; omega

theorem specSum_l (l : List Int) (hl : l.length ≤ 1048576) : ∀ (d k : Nat) (i a : Int), (l.length : Int) - i = d → 0 ≤ i → d < k → spec_l00Sum.l0 k l a i = some (wsum (l.drop i.toNat) a) := by
  intro d
  induction d with
  | zero =>
    intro k i a hd h0 hk
    obtain ⟨k, rfl⟩ : ∃ m, k = m + 1 := ⟨k - 1, by omega⟩
    simp only [spec_l00Sum.l0]; rw [if_neg (by omega), List.drop_eq_nil_of_le (by omega)]; rfl
  | succ d ih =>
    intro k i a hd h0 hk
    obtain ⟨k, rfl⟩ : ∃ m, k = m + 1 := ⟨k - 1, by omega⟩
    simp only [spec_l00Sum.l0]
    rw [if_pos (by omega), if_pos h0, w64 (n := i + 1) (by omega) (by omega), ih k (i + 1) _ (by omega) (by omega) (by omega), drop_rd l i h0 (by omega)]; rfl
theorem SpecSum_ (l : List Int) (hl : l.length ≤ 1048576) (k : Nat) (hk : l.length < k) : spec_l00Sum.f k l = some (wsum l 0) := by
  unfold spec_l00Sum.f
  rw [specSum_l l hl l.length k 0 0 (by omega) (by omega) hk]; simp

theorem okSum {l : List Int} (h : okS l = true) : wsum l 0 = l.sum ∧ -24000 ≤ l.sum ∧ l.sum ≤ 24000 := by
  obtain ⟨h1, h2, h3, h4⟩ := okS_says h
  obtain ⟨a, b, c⟩ := wsum_is 1000 (by omega) l 0 h3 (by omega) (by omega)
  exact ⟨by omega, by omega, by omega⟩

theorem Floor_ (a b : Int) (hb : 0 < b) (ha : -4611686018427387904 ≤ a) (ha2 : a ≤ 4611686018427387904) : spec_l00Floor.f a b = some (a / b) := by
  unfold spec_l00Floor.f
  rw [if_neg (by omega)]
  obtain ⟨h1, h2⟩ := ediv_bounds a b 4611686018427387904 hb ha ha2 (by omega)
  have e := floor_eq a b hb
  by_cases c : Int.tmod a b < 0
  · rw [if_pos c] at e ⊢; rw [w64 (n := Int.tdiv a b) (by omega) (by omega), w64 (by omega) (by omega), e]
  · rw [if_neg c] at e ⊢; rw [w64 (by omega) (by omega), e]

theorem specEven_l (s n : Int) (hn : 1 ≤ n) (hn2 : n ≤ 100) (hs : -100000 ≤ s) (hs2 : s ≤ 100000) : ∀ (d k : Nat) (i : Int) (a : List Int), n - i = d → 0 ≤ i → (a.length : Int) ≤ i → d < k → spec_EvenGaps.l0 k n s (s / n) a i = some (a ++ from_ (share s n) i d, 0) := by
  have hb := share_div s n hn
  have hq := ediv_bounds s n 100000 (by omega) (by omega) (by omega) (by omega)
  intro d
  induction d with
  | zero =>
    intro k i a hd h0 ha hk
    obtain ⟨k, rfl⟩ : ∃ m, k = m + 1 := ⟨k - 1, by omega⟩
    simp only [spec_EvenGaps.l0]; rw [if_neg (by omega)]; simp [from_]
  | succ d ih =>
    intro k i a hd h0 ha hk
    obtain ⟨k, rfl⟩ : ∃ m, k = m + 1 := ⟨k - 1, by omega⟩
    simp only [spec_EvenGaps.l0]
    rw [if_pos (by omega), w64 (n := s / n * n) (by omega) (by omega), w64 (n := s - s / n * n) (by omega) (by omega), w64 (n := s / n + 1) (by omega) (by omega), w64 (n := i + 1) (by omega) (by omega), from_succ]
    by_cases c : i < s - s / n * n
    · rw [if_pos c, if_pos (by omega), ih k (i + 1) _ (by omega) (by omega) (by simp; omega) (by omega)]; simp [share, c]
    · rw [if_neg c, if_pos (by omega), ih k (i + 1) _ (by omega) (by omega) (by simp; omega) (by omega)]; simp [share, c]
theorem SpecEven_ (g : List Int) (hl : g.length ≤ 1048576) (k : Nat) (hk : 1048700 ≤ k) : spec_EvenGaps.f k g = some (if okS g = true then (from_ (share g.sum g.length) 0 g.length, 0) else ([], 1)) := by
  unfold spec_EvenGaps.f
  rw [SpecOkS_ g hl k (by omega), SpecSum_ g hl k (by omega)]; simp only [Option.bind_some]
  by_cases h : okS g = true
  · obtain ⟨g1, g2, g3, g4⟩ := okS_says h
    obtain ⟨a, b, c⟩ := okSum h
    rw [if_pos h, if_pos h, a, Floor_ _ _ (by omega) (by omega) (by omega)]; simp only [Option.bind_some]
    rw [specEven_l g.sum g.length (by omega) (by omega) (by omega) (by omega) g.length k 0 [] (by omega) (by omega) (by simp) (by omega)]; simp
  · rw [if_neg h, if_neg h]

theorem floorDiv_ (a b : Int) (hb : 0 < b) (ha : -4611686018427387904 ≤ a) (ha2 : a ≤ 4611686018427387904) : impl_floorDiv.f a b = some (a / b) := by
  unfold impl_floorDiv.f
  rw [if_neg (by omega)]
  obtain ⟨h1, h2⟩ := ediv_bounds a b 4611686018427387904 hb ha ha2 (by omega)
  have e := floor_eq a b hb
  by_cases c : Int.tmod a b < 0
  · rw [if_pos c] at e ⊢; rw [w64 (n := Int.tdiv a b) (by omega) (by omega), w64 (by omega) (by omega), e]
  · rw [if_neg c] at e ⊢; rw [w64 (by omega) (by omega), e]

theorem shares_l (s n : Int) (hn : 1 ≤ n) (hn2 : n ≤ 100) (hs : -100000 ≤ s) (hs2 : s ≤ 100000) : ∀ (d k : Nat) (i : Int) (a : List Int), n - i = d → 0 ≤ i → (a.length : Int) ≤ i → d < k → impl_shares.l0 k s n a n i = some (a ++ from_ (share s n) i d) := by
  have hb := share_div s n hn
  have hq := ediv_bounds s n 100000 (by omega) (by omega) (by omega) (by omega)
  intro d
  induction d with
  | zero =>
    intro k i a hd h0 ha hk
    obtain ⟨k, rfl⟩ : ∃ m, k = m + 1 := ⟨k - 1, by omega⟩
    simp only [impl_shares.l0]; rw [if_neg (by omega)]; simp [from_]
  | succ d ih =>
    intro k i a hd h0 ha hk
    obtain ⟨k, rfl⟩ : ∃ m, k = m + 1 := ⟨k - 1, by omega⟩
    simp only [impl_shares.l0]
    rw [if_pos (by omega), floorDiv_ _ _ (by omega) (by omega) (by omega)]; simp only [Option.bind_some]
    rw [w64 (n := s / n * n) (by omega) (by omega), w64 (n := s - s / n * n) (by omega) (by omega), w64 (n := s / n + 1) (by omega) (by omega), w64 (n := i + 1) (by omega) (by omega), from_succ]
    by_cases c : i < s - s / n * n
    · rw [if_pos c, if_pos (by omega), ih k (i + 1) _ (by omega) (by omega) (by simp; omega) (by omega)]; simp [share, c]
    · rw [if_neg c, if_pos (by omega), ih k (i + 1) _ (by omega) (by omega) (by simp; omega) (by omega)]; simp [share, c]

theorem ImplOkS_ (l : List Int) : impl_ValidSeams.f l = some (okS l) := by
  unfold impl_ValidSeams.f impl_allWithin.f okS
  by_cases h1 : (l.length : Int) ≥ 2
  · by_cases h2 : (l.length : Int) ≤ 24
    · have e : decide (2 ≤ (l.length : Int) ∧ (l.length : Int) ≤ 24) = true := decide_eq_true ⟨h1, h2⟩
      rw [if_pos h1, if_pos h2, e]; simp
    · have e : decide (2 ≤ (l.length : Int) ∧ (l.length : Int) ≤ 24) = false := decide_eq_false (fun x => h2 x.2)
      rw [if_pos h1, if_neg h2, e]; simp
  · have e : decide (2 ≤ (l.length : Int) ∧ (l.length : Int) ≤ 24) = false := decide_eq_false (fun x => h1 x.1)
    rw [if_neg h1, e]; simp

theorem implSum_l (l : List Int) (hl : l.length ≤ 1048576) : ∀ (d k : Nat) (i a : Int), (l.length : Int) - i = d → 0 ≤ i → d < k → impl_sumOf.l0 k a l l.length i = some (wsum (l.drop i.toNat) a) := by
  intro d
  induction d with
  | zero =>
    intro k i a hd h0 hk
    obtain ⟨k, rfl⟩ : ∃ m, k = m + 1 := ⟨k - 1, by omega⟩
    simp only [impl_sumOf.l0]; rw [if_neg (by omega), List.drop_eq_nil_of_le (by omega)]; rfl
  | succ d ih =>
    intro k i a hd h0 hk
    obtain ⟨k, rfl⟩ : ∃ m, k = m + 1 := ⟨k - 1, by omega⟩
    simp only [impl_sumOf.l0]
    rw [if_pos (by omega), if_pos h0, if_pos (by omega), w64 (n := i + 1) (by omega) (by omega), ih k (i + 1) _ (by omega) (by omega) (by omega), drop_rd l i h0 (by omega)]; rfl
theorem ImplSum_ (l : List Int) (hl : l.length ≤ 1048576) (k : Nat) (hk : l.length < k) : impl_sumOf.f k l = some (wsum l 0) := by
  unfold impl_sumOf.f
  rw [implSum_l l hl l.length k 0 0 (by omega) (by omega) hk]; simp

theorem ImplEven_ (g : List Int) (hl : g.length ≤ 1048576) (k : Nat) (hk : 1048700 ≤ k) : impl_EvenGaps.f k g = some (if okS g = true then (from_ (share g.sum g.length) 0 g.length, 0) else ([], 1)) := by
  unfold impl_EvenGaps.f
  rw [ImplOkS_ g, ImplSum_ g hl k (by omega)]; simp only [Option.bind_some]
  by_cases h : okS g = true
  · obtain ⟨g1, g2, g3, g4⟩ := okS_says h
    obtain ⟨a, b, c⟩ := okSum h
    rw [if_pos h, if_pos h, a]
    unfold impl_shares.f
    rw [shares_l g.sum g.length (by omega) (by omega) (by omega) (by omega) g.length k 0 [] (by omega) (by omega) (by simp) (by omega)]; simp
  · rw [if_neg h, if_neg h]

theorem toInts_l (l : List Int) (hl : l.length ≤ 1048576) : ∀ (d k : Nat) (i : Int) (a : List Int), (l.length : Int) - i = d → 0 ≤ i → a.length = l.length → (∀ j : Int, 0 ≤ j → j < i → rd a j = rd l j) → d < k → laws_toInt64S.l0 k l a i = some l := by
  intro d
  induction d with
  | zero =>
    intro k i a hd h0 ha hr hk
    obtain ⟨k, rfl⟩ : ∃ m, k = m + 1 := ⟨k - 1, by omega⟩
    simp only [laws_toInt64S.l0]; rw [if_neg (by omega)]
    congr 1
    exact rd_ext a l ha (fun j h1 h2 => hr j h1 (by omega))
  | succ d ih =>
    intro k i a hd h0 ha hr hk
    obtain ⟨k, rfl⟩ : ∃ m, k = m + 1 := ⟨k - 1, by omega⟩
    simp only [laws_toInt64S.l0]
    rw [if_pos (by omega), if_pos h0, if_pos (by omega), w64 (by omega) (by omega)]
    refine ih k (i + 1) _ (by omega) (by omega) (by simpa using ha) (fun j h1 h2 => ?_) (by omega)
    by_cases e : j = i
    · subst e; exact rd_same _ _ _ h0 (by omega)
    · rw [rd_other _ _ _ _ h0 h1 (by omega)]; exact hr j h1 (by omega)
theorem toInts_ (l : List Int) (hl : l.length ≤ 1048576) (k : Nat) (hk : 1048577 ≤ k) : laws_toInt64S.f k l = some l := by
  unfold laws_toInt64S.f
  rw [if_pos (by omega), if_pos (by simp; omega)]
  exact toInts_l l hl l.length k 0 _ (by omega) (by omega) (by simp) (fun j h1 h2 => by omega) (by omega)

theorem eqInts_l (l : List Int) (hl : l.length ≤ 1152921504606846976) : ∀ (d k : Nat) (i : Int), (l.length : Int) - i = d → 0 ≤ i → d < k → laws_eqInt64S.l0 k l l i = some true := by
  intro d
  induction d with
  | zero =>
    intro k i hd h0 hk
    obtain ⟨k, rfl⟩ : ∃ m, k = m + 1 := ⟨k - 1, by omega⟩
    simp only [laws_eqInt64S.l0]; rw [if_neg (by omega)]
  | succ d ih =>
    intro k i hd h0 hk
    obtain ⟨k, rfl⟩ : ∃ m, k = m + 1 := ⟨k - 1, by omega⟩
    simp only [laws_eqInt64S.l0]
    rw [if_pos (by omega), if_pos h0, if_pos (by omega), if_pos trivial, w64 (by omega) (by omega)]
    exact ih k (i + 1) (by omega) (by omega) (by omega)
theorem eqInts_ (l : List Int) (hl : l.length ≤ 1152921504606846976) (k : Nat) (hk : l.length < k) : laws_eqInt64S.f k l l = some true := by
  unfold laws_eqInt64S.f
  rw [if_pos rfl]; exact eqInts_l l hl l.length k 0 (by omega) (by omega) hk

theorem eqI_ (l : List Int) (hl : l.length ≤ 1048576) (k : Nat) (hk : 1048577 ≤ k) : laws_eqInt64S.f k l l = some true := eqInts_ l (by omega) k (by omega)

theorem rd_set_same (l : List Int) (i : Int) (v : Int) (h0 : 0 ≤ i) (h : i < l.length) : rd (l.set i.toNat v) i = v := by
  unfold rd; simp [List.getD_eq_getElem?_getD, List.getElem?_set, show i.toNat < l.length by omega]
theorem rd_set_other (l : List Int) (i j : Int) (v : Int) (h0 : 0 ≤ i) (h1 : 0 ≤ j) (h : i ≠ j) : rd (l.set i.toNat v) j = rd l j := by
  unfold rd; simp [List.getD_eq_getElem?_getD, List.getElem?_set, show ¬ i.toNat = j.toNat by omega]
theorem mark_l : ∀ (d k : Nat) (l : List Int) (i m : Int), (l.length : Int) - i = d → 0 ≤ i → l.length ≤ 1152921504606846976 → 0 ≤ m → m + d ≤ 4611686018427387904 → d < k → ∃ l', laws_markInt64S.l0 k l m i = some (m + d, l') ∧ l'.length = l.length ∧ (∀ j, i ≤ j → j < l.length → rd l' j = m + (j - i)) ∧ ∀ j, 0 ≤ j → j < i → rd l' j = rd l j := by
  intro d
  induction d with
  | zero =>
    intro k l i m hd h0 hl hm hm2 hk
    obtain ⟨k, rfl⟩ : ∃ m, k = m + 1 := ⟨k - 1, by omega⟩
    refine ⟨l, ?_, rfl, fun j h1 h2 => by omega, fun j _ _ => rfl⟩
    simp only [laws_markInt64S.l0]; rw [if_neg (by omega)]; simp
  | succ d ih =>
    intro k l i m hd h0 hl hm hm2 hk
    obtain ⟨k, rfl⟩ : ∃ m, k = m + 1 := ⟨k - 1, by omega⟩
    obtain ⟨l', h1, h2, h3, h4⟩ := ih k (l.set i.toNat m) (i + 1) (m + 1) (by simp; omega) (by omega) (by simpa using hl) (by omega) (by omega) (by omega)
    refine ⟨l', ?_, by simpa using h2, fun j g1 g2 => ?_, fun j g1 g2 => ?_⟩
    · simp only [laws_markInt64S.l0]
      rw [if_pos (by omega), if_pos h0, w64 (n := m + 1) (by omega) (by omega), w64 (n := i + 1) (by omega) (by omega), h1]
      congr 2; omega
    · by_cases e : j = i
      · subst e; rw [h4 j h0 (by omega), rd_set_same _ _ _ h0 (by omega)]; omega
      · rw [h3 j (by omega) (by simpa using g2)]; omega
    · rw [h4 j g1 (by omega), rd_set_other _ _ _ _ h0 g1 (by omega)]
theorem held_l (l : List Int) (hl : l.length ≤ 1152921504606846976) : ∀ (d k : Nat) (i m : Int), (l.length : Int) - i = d → 0 ≤ i → 0 ≤ m → m + d ≤ 4611686018427387904 → d < k → (∀ j, i ≤ j → j < l.length → rd l j = m + (j - i)) → laws_heldInt64S.l0 k l m i = some (m + d) := by
  intro d
  induction d with
  | zero =>
    intro k i m hd h0 hm hm2 hk hr
    obtain ⟨k, rfl⟩ : ∃ m, k = m + 1 := ⟨k - 1, by omega⟩
    simp only [laws_heldInt64S.l0]; rw [if_neg (by omega)]; simp
  | succ d ih =>
    intro k i m hd h0 hm hm2 hk hr
    obtain ⟨k, rfl⟩ : ∃ m, k = m + 1 := ⟨k - 1, by omega⟩
    simp only [laws_heldInt64S.l0]
    rw [if_pos (by omega), if_pos h0, if_pos (by rw [hr i (by omega) (by omega)]; omega), w64 (n := m + 1) (by omega) (by omega), w64 (n := i + 1) (by omega) (by omega), ih k (i + 1) (m + 1) (by omega) (by omega) (by omega) (by omega) (by omega) (fun j g1 g2 => by rw [hr j (by omega) g2]; omega)]
    congr 1; omega
theorem mark_held (l : List Int) (hl : l.length ≤ 1152921504606846976) (k : Nat) (hk : l.length < k) (k' : Nat) (hk' : l.length < k') (k'' : Nat) (hk'' : l.length < k'') : ∃ l', laws_markInt64S.f k l 1 = some (1 + (l.length : Int), l') ∧ laws_heldInt64S.f k' l' 1 = some (1 + (l.length : Int)) ∧ laws_heldInt64S.f k'' l' 1 = some (1 + (l.length : Int)) := by
  obtain ⟨l', h1, h2, h3, h4⟩ := mark_l l.length k l 0 1 (by omega) (by omega) hl (by omega) (by omega) hk
  have hh : ∀ k, l.length < k → laws_heldInt64S.l0 k l' 1 0 = some (1 + (l.length : Int)) := fun k hk => held_l l' (by omega) l.length k 0 1 (by omega) (by omega) (by omega) (by omega) hk (fun j g1 g2 => h3 j g1 (by omega))
  refine ⟨l', ?_, ?_, ?_⟩
  · unfold laws_markInt64S.f; exact h1
  · unfold laws_heldInt64S.f; exact hh k' hk'
  · unfold laws_heldInt64S.f; exact hh k'' hk''

theorem mkI_ (l : List Int) (hl : l.length ≤ 1048576) (m : Int) (h0 : 0 ≤ m) (h1 : m ≤ 1000000000) : ∃ l', ∀ k, 1048577 ≤ k → laws_markInt64S.f k l m = some (m + (l.length : Int), l') := by
  obtain ⟨l', h, _⟩ := mark_l l.length 1048577 l 0 m (by omega) (by omega) (by omega) (by omega) (by omega) (by omega)
  refine ⟨l', fun k hk => ?_⟩
  exact at_rounds (g := fun k => laws_markInt64S.f k l m) (fun k => laws_markInt64S.mono _ _ _) hk (by unfold laws_markInt64S.f; exact h)
theorem mkH_ (l : List Int) (hl : l.length ≤ 1048576) : ∃ l', (∀ k, 1048577 ≤ k → laws_markInt64S.f k l 1 = some (1 + (l.length : Int), l')) ∧ ∀ k, 1048577 ≤ k → laws_heldInt64S.f k l' 1 = some (1 + (l.length : Int)) := by
  obtain ⟨l', h1, h2, h3⟩ := mark_held l (by omega) 1048577 (by omega) 1048577 (by omega) 1048577 (by omega)
  refine ⟨l', fun k hk => ?_, fun k hk => ?_⟩
  · exact at_rounds (g := fun k => laws_markInt64S.f k l 1) (fun k => laws_markInt64S.mono _ _ _) hk h1
  · exact at_rounds (g := fun k => laws_heldInt64S.f k l' 1) (fun k => laws_heldInt64S.mono _ _ _) hk h2

theorem FnExactEvenGaps : laws_FnExactEvenGaps.Pure := by
  intro l 
  intros
  refine ⟨1048800, ?_⟩
  unfold laws_FnExactEvenGaps.f
  by_cases hb : (l.length : Int) > 1048576
  · rw [if_pos hb]
  have hl : l.length ≤ 1048576 := by omega
  have hT := toInts_ l hl
  have hE := eqI_ l hl
  have hS : ∀ k, 1048700 ≤ k → spec_EvenGaps.f k l = some (if okS l = true then (from_ (share l.sum l.length) 0 l.length, 0) else ([], 1)) := fun k hk => SpecEven_ l hl k hk
  have hI : ∀ k, 1048700 ≤ k → impl_EvenGaps.f k l = some (if okS l = true then (from_ (share l.sum l.length) 0 l.length, 0) else ([], 1)) := fun k hk => ImplEven_ l hl k hk
  generalize hr : (if okS l = true then (from_ (share l.sum l.length) 0 l.length, (0 : Int)) else ([], 1)) = r at hS hI
  have hrl : r.1.length ≤ 1048576 := by
    subst hr
    by_cases h : okS l = true
    · obtain ⟨g1, g2, g3, g4⟩ := okS_says h
      rw [if_pos h]; simp only [from_len]; omega
    · rw [if_neg h]; simp
  obtain ⟨R, c⟩ := r
  have hER := eqI_ R hrl
  obtain ⟨l', hM⟩ := mkI_ l hl 1 (by omega) (by omega)
  obtain ⟨R', hMR, hH⟩ := mkH_ R hrl
  have n1 : ¬ (1 + (l.length : Int) < 0) := by omega
  have n2 : ¬ (1 + (R.length : Int) < 0) := by omega
  rw [if_neg hb, hT _ (by omega)]; simp only [Option.bind_some]
  rw [hS _ (by omega)]; simp only [Option.bind_some]
  rw [hI _ (by omega)]; simp only [Option.bind_some]
  rw [hER _ (by omega)]; simp only [Option.bind_some, if_true, laws_FnExactEvenGaps.j0, bne_self_eq_false, Bool.false_eq_true, if_false]
  rw [hT _ (by omega)]; simp only [Option.bind_some]
  rw [hE _ (by omega)]; simp only [Option.bind_some, if_true]
  rw [hM _ (by omega)]; simp only [Option.bind_some]
  rw [if_neg n1, hER _ (by omega)]; simp only [Option.bind_some, if_true, laws_FnExactEvenGaps.j1, bne_self_eq_false, Bool.false_eq_true, if_false]
  rw [hMR _ (by omega)]; simp only [Option.bind_some]
  rw [hH _ (by omega)]; simp only [Option.bind_some]
  rw [if_neg n2]; simp only [if_true]; rw [hT _ (by omega)]; simp only [Option.bind_some]
  rw [hI _ (by omega)]; simp only [Option.bind_some]
  rw [hER _ (by omega)]; simp only [Option.bind_some, if_true, laws_FnExactEvenGaps.j2, bne_self_eq_false, Bool.false_eq_true, if_false]
  rw [hH _ (by omega)]; simp only [Option.bind_some]
  rw [if_neg n2]; simp

end Go.Proofs.Ytcgcmnebenllcaa.Pure
