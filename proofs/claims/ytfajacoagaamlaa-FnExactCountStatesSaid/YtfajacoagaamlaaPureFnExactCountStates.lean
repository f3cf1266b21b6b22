/- For all states the program's CountStates answers as the reference's does, in memory of its own. No condition. -/
import Derived.Test.YtfajacoagaamlaaQFnExactCountStatesx3
import Derived.Test.YtfajacoagaamlaaBase
namespace Go.Proofs.Ytfajacoagaamlaa.Pure
open Go Go.RowKit Go.Proofs.Ytfajacoagaamlaa.QFnExactCountStates Go.Proofs.YtfajacoagaamlaaW.PrintWords Go.Proofs.YtfajacoagaamlaaW.PrintLast Go.Proofs.YtfajacoagaamlaaW.PrintMore Go.Proofs.Ytfajacoagaamlaa.Base
set_option linter.unusedVariables false
set_option linter.unusedSimpArgs false

def okT (l : List Int) : Bool := decide ((l.length : Int) ≤ 40) && l.all fun x => decide (0 ≤ x ∧ x ≤ 3)
theorem okT_says {l : List Int} (h : okT l = true) : l.length ≤ 40 ∧ (∀ x ∈ l, 0 ≤ x ∧ x ≤ 3) ∧ ∀ i : Int, 0 ≤ i → i < l.length → 0 ≤ rd l i ∧ rd l i ≤ 3 := by
  unfold okT at h
  simp only [Bool.and_eq_true, decide_eq_true_eq, List.all_eq_true] at h
  exact ⟨by omega, h.2, fun i h0 h1 => h.2 _ (rd_in l i h0 h1)⟩

/-- How often each of four numbers stands in a list. -/
def cnt4 (l : List Int) : List Int := from_ (fun v => ((l.count v : Nat) : Int)) 0 4
theorem rd_cnt4 (l : List Int) (v : Int) (h0 : 0 ≤ v) (h : v < 4) : rd (cnt4 l) v = (l.count v : Nat) := by
  unfold cnt4; rw [rd_from _ _ _ h0 (by omega)]
theorem cnt4_len (l : List Int) : (cnt4 l).length = 4 := by unfold cnt4; rw [from_len]
theorem cnt4_step (l : List Int) (x : Int) (h0 : 0 ≤ x) (h : x ≤ 3) : (cnt4 l).set x.toNat (rd (cnt4 l) x + 1) = cnt4 (l ++ [x]) := by
  apply rd_ext
  · rw [List.length_set, cnt4_len, cnt4_len]
  · intro j j0 j1
    rw [cnt4_len] at j1
    rw [rd_cnt4 (l ++ [x]) j j0 (by omega), List.count_append]
    by_cases e : j = x
    · subst e
      rw [rd_same _ _ _ h0 (by rw [cnt4_len]; omega), rd_cnt4 l j j0 (by omega)]; simp
    · rw [rd_other _ _ _ _ h0 j0 (by omega), rd_cnt4 l j j0 (by omega)]; simp [show ¬ x = j by omega]
theorem take_rd (l : List Int) (i : Int) (h0 : 0 ≤ i) (h : i < l.length) : l.take (i + 1).toNat = l.take i.toNat ++ [rd l i] := by
  rw [show (i + 1).toNat = i.toNat + 1 by omega, List.take_succ_eq_append_getElem (by omega)]
  unfold rd
  rw [List.getD_eq_getElem?_getD, List.getElem?_eq_getElem (by omega)]; rfl
theorem cnt4_nil : List.replicate 4 (0 : Int) = cnt4 [] := by decide

theorem specCounts_l (g : List Int) (hg : okT g = true) : ∀ (d k : Nat) (i : Int), (g.length : Int) - i = d → 0 ≤ i → d < k → spec_l22Counts.l0 k g (cnt4 (g.take i.toNat)) i = some (cnt4 g) := by
  obtain ⟨g1, g2, g3⟩ := okT_says hg
  intro d
  induction d with
  | zero =>
    intro k i hd h0 hk
    obtain ⟨k, rfl⟩ : ∃ m, k = m + 1 := ⟨k - 1, by omega⟩
    simp only [spec_l22Counts.l0]; rw [if_neg (by omega), List.take_of_length_le (by omega)]
  | succ d ih =>
    intro k i hd h0 hk
    obtain ⟨k, rfl⟩ : ∃ m, k = m + 1 := ⟨k - 1, by omega⟩
    have hx := g3 i h0 (by omega)
    have hc : ((List.count (rd g i) (g.take i.toNat) : Nat) : Int) ≤ 40 := by
      have := List.count_le_length (a := rd g i) (l := g.take i.toNat)
      have := List.length_take_le i.toNat g
      have : (g.take i.toNat).length ≤ g.length := by rw [List.length_take]; omega
      omega
    simp only [spec_l22Counts.l0]
    rw [if_pos (by omega), if_pos h0, if_pos hx.1, if_pos (by rw [cnt4_len]; omega), w64 (n := i + 1) (by omega) (by omega), w64 (n := rd (cnt4 (g.take i.toNat)) (rd g i) + 1) (by rw [rd_cnt4 _ _ hx.1 (by omega)]; omega) (by rw [rd_cnt4 _ _ hx.1 (by omega)]; omega), cnt4_step _ _ hx.1 hx.2, ← take_rd g i h0 (by omega)]
    exact ih k (i + 1) (by omega) (by omega) (by omega)
theorem SpecCounts_ (g : List Int) (hg : okT g = true) (k : Nat) (hk : 50 ≤ k) : spec_l22Counts.f k g = some (cnt4 g) := by
  have := okT_says hg
  unfold spec_l22Counts.f
  rw [if_pos (by omega), cnt4_nil]
  exact specCounts_l g hg g.length k 0 (by omega) (by omega) (by omega)

theorem In_ (a b c : Int) : spec_l00In.f a b c = some (decide (b ≤ a ∧ a ≤ c)) := by
  unfold spec_l00In.f
  by_cases h : a ≥ b
  · rw [if_pos h]; simp [show b ≤ a from h]
  · rw [if_neg h]; simp [show ¬ b ≤ a from h]

theorem specOkT_l (l : List Int) (hl : l.length ≤ 1048576) : ∀ (d k : Nat) (i : Int), (l.length : Int) - i = d → 0 ≤ i → d < k → spec_l22Ok.l0 k l i = some ((l.drop i.toNat).all (fun x => decide (0 ≤ x ∧ x ≤ 3)) && decide ((l.length : Int) ≤ 40)) := by
  intro d
  induction d with
  | zero =>
    intro k i hd h0 hk
    obtain ⟨k, rfl⟩ : ∃ m, k = m + 1 := ⟨k - 1, by omega⟩
    simp only [spec_l22Ok.l0]; rw [if_neg (by omega), List.drop_eq_nil_of_le (by omega)]; simp
  | succ d ih =>
    intro k i hd h0 hk
    obtain ⟨k, rfl⟩ : ∃ m, k = m + 1 := ⟨k - 1, by omega⟩
    simp only [spec_l22Ok.l0]
    rw [if_pos (by omega), if_pos h0, In_, drop_rd l i h0 (by omega), w64 (by omega) (by omega), ih k (i + 1) (by omega) (by omega) (by omega)]
    simp only [Option.bind_some, List.all_cons]
    by_cases c : 0 ≤ rd l i ∧ rd l i ≤ 3
    · simp [c]
    · simp [c]
theorem SpecOkT_ (l : List Int) (hl : l.length ≤ 1048576) (k : Nat) (hk : l.length < k) : spec_l22Ok.f k l = some (okT l) := by
  unfold spec_l22Ok.f okT
  rw [specOkT_l l hl l.length k 0 (by omega) (by omega) hk]
  simp [Bool.and_comm]

theorem SpecCountStates_ (g : List Int) (hl : g.length ≤ 1048576) (k : Nat) (hk : 1048700 ≤ k) : spec_CountStates.f k g = some (if okT g = true then (cnt4 g, 0) else ([], 1)) := by
  unfold spec_CountStates.f
  rw [SpecOkT_ g hl k (by omega)]; simp only [Option.bind_some]
  by_cases h : okT g = true
  · rw [if_pos h, if_pos h, SpecCounts_ g h k (by omega)]; rfl
  · rw [if_neg h, if_neg h]

theorem ImplOkT_ (l : List Int) : impl_ValidStates.f l = some (okT l) := by
  unfold impl_ValidStates.f impl_allWithin.f okT
  by_cases h2 : (l.length : Int) ≤ 40
  · rw [if_pos h2, decide_eq_true h2]; simp
  · rw [if_neg h2, decide_eq_false h2]; simp

theorem implCounts_l (g : List Int) (hg : okT g = true) : ∀ (d k : Nat) (i : Int), (g.length : Int) - i = d → 0 ≤ i → d < k → impl_CountStates.l0 k (cnt4 (g.take i.toNat)) g g.length i = some (cnt4 g, 0) := by
  obtain ⟨g1, g2, g3⟩ := okT_says hg
  intro d
  induction d with
  | zero =>
    intro k i hd h0 hk
    obtain ⟨k, rfl⟩ : ∃ m, k = m + 1 := ⟨k - 1, by omega⟩
    simp only [impl_CountStates.l0]; rw [if_neg (by omega), List.take_of_length_le (by omega)]
  | succ d ih =>
    intro k i hd h0 hk
    obtain ⟨k, rfl⟩ : ∃ m, k = m + 1 := ⟨k - 1, by omega⟩
    have hx := g3 i h0 (by omega)
    have hc : ((List.count (rd g i) (g.take i.toNat) : Nat) : Int) ≤ 40 := by
      have := List.count_le_length (a := rd g i) (l := g.take i.toNat)
      have : (g.take i.toNat).length ≤ g.length := by rw [List.length_take]; omega
      omega
    simp only [impl_CountStates.l0]
    rw [if_pos (by omega), if_pos h0, if_pos (by omega), if_pos hx.1, if_pos (by rw [cnt4_len]; omega), w64 (n := i + 1) (by omega) (by omega), w64 (n := rd (cnt4 (g.take i.toNat)) (rd g i) + 1) (by rw [rd_cnt4 _ _ hx.1 (by omega)]; omega) (by rw [rd_cnt4 _ _ hx.1 (by omega)]; omega), cnt4_step _ _ hx.1 hx.2, ← take_rd g i h0 (by omega)]
    exact ih k (i + 1) (by omega) (by omega) (by omega)
theorem ImplCountStates_ (g : List Int) (k : Nat) (hk : 50 ≤ k) : impl_CountStates.f k g = some (if okT g = true then (cnt4 g, 0) else ([], 1)) := by
  unfold impl_CountStates.f
  rw [ImplOkT_ g]; simp only [Option.bind_some]
  by_cases h : okT g = true
  · have := okT_says h
    rw [if_pos h, if_pos h, if_pos (by omega), cnt4_nil]
    exact implCounts_l g h g.length k 0 (by omega) (by omega) (by omega)
  · rw [if_neg h, if_neg h]

theorem toInts_l (l : List Int) (hl : l.length ≤ 1048576) : ∀ (d k : Nat) (i : Int) (a : List Int), (l.length : Int) - i = d → 0 ≤ i → a.length = l.length → (∀ j : Int, 0 ≤ j → j < i → rd a j = rd l j) → d < k → laws_toInt64S.l0 k l a i = some l := by
  intro d
  induction d with
  | zero =>
    intro k i a hd h0 ha hr hk
    obtain ⟨k, rfl⟩ : ∃ m, k = m + 1 := ⟨k - 1, by omega⟩
    simp only [laws_toInt64S.l0]; rw [if_neg (by omega)]
    congr 1
    exact rd_ext a l ha (fun j h1 h2 => hr j h1 (by omega))
  | succ d ih =>
    intro k i a hd h0 ha hr hk
    obtain ⟨k, rfl⟩ : ∃ m, k = m + 1 := ⟨k - 1, by omega⟩
    simp only [laws_toInt64S.l0]
    rw [if_pos (by omega), if_pos h0, if_pos (by omega), w64 (by omega) (by omega)]
    refine ih k (i + 1) _ (by omega) (by omega) (by simpa using ha) (fun j h1 h2 => ?_) (by omega)
    by_cases e : j = i
    · subst e; exact rd_same _ _ _ h0 (by omega)
    · rw [rd_other _ _ _ _ h0 h1 (by omega)]; exact hr j h1 (by omega)
theorem toInts_ (l : List Int) (hl : l.length ≤ 1048576) (k : Nat) (hk : 1048577 ≤ k) : laws_toInt64S.f k l = some l := by
  unfold laws_toInt64S.f
  rw [if_pos (by omega), if_pos (by simp; omega)]
  exact toInts_l l hl l.length k 0 _ (by omega) (by omega) (by simp) (fun j h1 h2 => by omega) (by omega)

theorem eqInts_l (l : List Int) (hl : l.length ≤ 1152921504606846976) : ∀ (d k : Nat) (i : Int), (l.length : Int) - i = d → 0 ≤ i → d < k → laws_eqInt64S.l0 k l l i = some true := by
  intro d
  induction d with
  | zero =>
    intro k i hd h0 hk
    obtain ⟨k, rfl⟩ : ∃ m, k = m + 1 := ⟨k - 1, by omega⟩
    simp only [laws_eqInt64S.l0]; rw [if_neg (by omega)]
  | succ d ih =>
    intro k i hd h0 hk
    obtain ⟨k, rfl⟩ : ∃ m, k = m + 1 := ⟨k - 1, by omega⟩
    simp only [laws_eqInt64S.l0]
    rw [if_pos (by omega), if_pos h0, if_pos (by omega), if_pos trivial, w64 (by omega) (by omega)]
    exact ih k (i + 1) (by omega) (by omega) (by omega)
theorem eqInts_ (l : List Int) (hl : l.length ≤ 1152921504606846976) (k : Nat) (hk : l.length < k) : laws_eqInt64S.f k l l = some true := by
  unfold laws_eqInt64S.f
  rw [if_pos rfl]; exact eqInts_l l hl l.length k 0 (by omega) (by omega) hk

theorem eqI_ (l : List Int) (hl : l.length ≤ 1048576) (k : Nat) (hk : 1048577 ≤ k) : laws_eqInt64S.f k l l = some true := eqInts_ l (by omega) k (by omega)

theorem rd_set_same (l : List Int) (i : Int) (v : Int) (h0 : 0 ≤ i) (h : i < l.length) : rd (l.set i.toNat v) i = v := by
  unfold rd; simp [List.getD_eq_getElem?_getD, List.getElem?_set, show i.toNat < l.length by omega]
theorem rd_set_other (l : List Int) (i j : Int) (v : Int) (h0 : 0 ≤ i) (h1 : 0 ≤ j) (h : i ≠ j) : rd (l.set i.toNat v) j = rd l j := by
  unfold rd; simp [List.getD_eq_getElem?_getD, List.getElem?_set, show ¬ i.toNat = j.toNat by omega]
theorem mark_l : ∀ (d k : Nat) (l : List Int) (i m : Int), (l.length : Int) - i = d → 0 ≤ i → l.length ≤ 1152921504606846976 → 0 ≤ m → m + d ≤ 4611686018427387904 → d < k → ∃ l', laws_markInt64S.l0 k l m i = some (m + d, l') ∧ l'.length = l.length ∧ (∀ j, i ≤ j → j < l.length → rd l' j = m + (j - i)) ∧ ∀ j, 0 ≤ j → j < i → rd l' j = rd l j := by
  intro d
  induction d with
  | zero =>
    intro k l i m hd h0 hl hm hm2 hk
    obtain ⟨k, rfl⟩ : ∃ m, k = m + 1 := ⟨k - 1, by omega⟩
    refine ⟨l, ?_, rfl, fun j h1 h2 => by omega, fun j _ _ => rfl⟩
    simp only [laws_markInt64S.l0]; rw [if_neg (by omega)]; simp
  | succ d ih =>
    intro k l i m hd h0 hl hm hm2 hk
    obtain ⟨k, rfl⟩ : ∃ m, k = m + 1 := ⟨k - 1, by omega⟩
    obtain ⟨l', h1, h2, h3, h4⟩ := ih k (l.set i.toNat m) (i + 1) (m + 1) (by simp; omega) (by omega) (by simpa using hl) (by omega) (by omega) (by omega)
    refine ⟨l', ?_, by simpa using h2, fun j g1 g2 => ?_, fun j g1 g2 => ?_⟩
    · simp only [laws_markInt64S.l0]
      rw [if_pos (by omega), if_pos h0, w64 (n := m + 1) (by omega) (by omega), w64 (n := i + 1) (by omega) (by omega), h1]
      congr 2; omega
    · by_cases e : j = i
      · subst e; rw [h4 j h0 (by omega), rd_set_same _ _ _ h0 (by omega)]; omega
      · rw [h3 j (by omega) (by simpa using g2)]; omega
    · rw [h4 j g1 (by omega), rd_set_other _ _ _ _ h0 g1 (by omega)]
theorem held_l (l : List Int) (hl : l.length ≤ 1152921504606846976) : ∀ (d k : Nat) (i m : Int), (l.length : Int) - i = d → 0 ≤ i → 0 ≤ m → m + d ≤ 4611686018427387904 → d < k → (∀ j, i ≤ j → j < l.length → rd l j = m + (j - i)) → laws_heldInt64S.l0 k l m i = some (m + d) := by
  intro d
  induction d with
  | zero =>
    intro k i m hd h0 hm hm2 hk hr
    obtain ⟨k, rfl⟩ : ∃ m, k = m + 1 := ⟨k - 1, by omega⟩
    simp only [laws_heldInt64S.l0]; rw [if_neg (by omega)]; simp
  | succ d ih =>
    intro k i m hd h0 hm hm2 hk hr
    obtain ⟨k, rfl⟩ : ∃ m, k = m + 1 := ⟨k - 1, by omega⟩
    simp only [laws_heldInt64S.l0]
    rw [if_pos (by omega), if_pos h0, if_pos (by rw [hr i (by omega) (by omega)]; omega), w64 (n := m + 1) (by omega) (by omega), w64 (n := i + 1) (by omega) (by omega), ih k (i + 1) (m + 1) (by omega) (by omega) (by omega) (by omega) (by omega) (fun j g1 g2 => by rw [hr j (by omega) g2]; omega)]
    congr 1; omega
theorem mark_held (l : List Int) (hl : l.length ≤ 1152921504606846976) (k : Nat) (hk : l.length < k) (k' : Nat) (hk' : l.length < k') (k'' : Nat) (hk'' : l.length < k'') : ∃ l', laws_markInt64S.f k l 1 = some (1 + (l.length : Int), l') ∧ laws_heldInt64S.f k' l' 1 = some (1 + (l.length : Int)) ∧ laws_heldInt64S.f k'' l' 1 = some (1 + (l.length : Int)) := by
  obtain ⟨l', h1, h2, h3, h4⟩ := mark_l l.length k l 0 1 (by omega) (by omega) hl (by omega) (by omega) hk
  have hh : ∀ k, l.length < k → laws_heldInt64S.l0 k l' 1 0 = some (1 + (l.length : Int)) := fun k hk => held_l l' (by omega) l.length k 0 1 (by omega) (by omega) (by omega) (by omega) hk (fun j g1 g2 => h3 j g1 (by omega))
  refine ⟨l', ?_, ?_, ?_⟩
  · unfold laws_markInt64S.f; exact h1
  · unfold laws_heldInt64S.f; exact hh k' hk'
  · unfold laws_heldInt64S.f; exact hh k'' hk''

theorem mkI_ (l : List Int) (hl : l.length ≤ 1048576) (m : Int) (h0 : 0 ≤ m) (h1 : m ≤ 1000000000) : ∃ l', ∀ k, 1048577 ≤ k → laws_markInt64S.f k l m = some (m + (l.length : Int), l') := by
  obtain ⟨l', h, _⟩ := mark_l l.length 1048577 l 0 m (by omega) (by omega) (by omega) (by omega) (by omega) (by omega)
  refine ⟨l', fun k hk => ?_⟩
  exact at_rounds (g := fun k => laws_markInt64S.f k l m) (fun k => laws_markInt64S.mono _ _ _) hk (by unfold laws_markInt64S.f; exact h)
theorem mkH_ (l : List Int) (hl : l.length ≤ 1048576) : ∃ l', (∀ k, 1048577 ≤ k → laws_markInt64S.f k l 1 = some (1 + (l.length : Int), l')) ∧ ∀ k, 1048577 ≤ k → laws_heldInt64S.f k l' 1 = some (1 + (l.length : Int)) := by
  obtain ⟨l', h1, h2, h3⟩ := mark_held l (by omega) 1048577 (by omega) 1048577 (by omega) 1048577 (by omega)
  refine ⟨l', fun k hk => ?_, fun k hk => ?_⟩
  · exact at_rounds (g := fun k => laws_markInt64S.f k l 1) (fun k => laws_markInt64S.mono _ _ _) hk h1
  · exact at_rounds (g := fun k => laws_heldInt64S.f k l' 1) (fun k => laws_heldInt64S.mono _ _ _) hk h2

theorem FnExactCountStates : laws_FnExactCountStates.Pure := by
  intro l 
  intros
  refine ⟨1048800, ?_⟩
  unfold laws_FnExactCountStates.f
  by_cases hb : (l.length : Int) > 1048576
  · rw [if_pos hb]
  have hl : l.length ≤ 1048576 := by omega
  have hT := toInts_ l hl
  have hE := eqI_ l hl
  have hS : ∀ k, 1048700 ≤ k → spec_CountStates.f k l = some (if okT l = true then (cnt4 l, 0) else ([], 1)) := fun k hk => SpecCountStates_ l hl k hk
  have hI : ∀ k, 1048700 ≤ k → impl_CountStates.f k l = some (if okT l = true then (cnt4 l, 0) else ([], 1)) := fun k hk => ImplCountStates_ l k (by omega)
  generalize hr : (if okT l = true then (cnt4 l, (0 : Int)) else ([], 1)) = r at hS hI
  have hrl : r.1.length ≤ 1048576 := by
    subst hr
    by_cases h : okT l = true
    · obtain ⟨g1, g2, g3⟩ := okT_says h
      rw [if_pos h]; simp only [cnt4_len]; omega
    · rw [if_neg h]; simp
  obtain ⟨R, c⟩ := r
  have hER := eqI_ R hrl
  obtain ⟨l', hM⟩ := mkI_ l hl 1 (by omega) (by omega)
  obtain ⟨R', hMR, hH⟩ := mkH_ R hrl
  have n1 : ¬ (1 + (l.length : Int) < 0) := by omega
  have n2 : ¬ (1 + (R.length : Int) < 0) := by omega
  rw [if_neg hb, hT _ (by omega)]; simp only [Option.bind_some]
  rw [hS _ (by omega)]; simp only [Option.bind_some]
  rw [hI _ (by omega)]; simp only [Option.bind_some]
  rw [hER _ (by omega)]; simp only [Option.bind_some, if_true, laws_FnExactCountStates.j0, bne_self_eq_false, Bool.false_eq_true, if_false]
  rw [hT _ (by omega)]; simp only [Option.bind_some]
  rw [hE _ (by omega)]; simp only [Option.bind_some, if_true]
  rw [hM _ (by omega)]; simp only [Option.bind_some]
  rw [if_neg n1, hER _ (by omega)]; simp only [Option.bind_some, if_true, laws_FnExactCountStates.j1, bne_self_eq_false, Bool.false_eq_true, if_false]
  rw [hMR _ (by omega)]; simp only [Option.bind_some]
  rw [hH _ (by omega)]; simp only [Option.bind_some]
  rw [if_neg n2]; simp only [if_true]; rw [hT _ (by omega)]; simp only [Option.bind_some]
  rw [hI _ (by omega)]; simp only [Option.bind_some]
  rw [hER _ (by omega)]; simp only [Option.bind_some, if_true, laws_FnExactCountStates.j2, bne_self_eq_false, Bool.false_eq_true, if_false]
  rw [hH _ (by omega)]; simp only [Option.bind_some]
  rw [if_neg n2]; simp

end Go.Proofs.Ytfajacoagaamlaa.Pure
