/- For all states the program's StatesText answers as the reference's does. No condition. -/
import Derived.Test.YtfajacoagaamlaaQFnExactStatesTextx2
import Derived.Test.YtfajacoagaamlaaBase
namespace Go.Proofs.Ytfajacoagaamlaa.Pure
open Go Go.RowKit Go.Proofs.Ytfajacoagaamlaa.QFnExactStatesText Go.Proofs.YtfajacoagaamlaaW.PrintWords Go.Proofs.YtfajacoagaamlaaW.PrintLast Go.Proofs.YtfajacoagaamlaaW.PrintMore Go.Proofs.Ytfajacoagaamlaa.Base
set_option linter.unusedVariables false
set_option linter.unusedSimpArgs false

def okT (l : List Int) : Bool := decide ((l.length : Int) ≤ 40) && l.all fun x => decide (0 ≤ x ∧ x ≤ 3)
theorem okT_says {l : List Int} (h : okT l = true) : l.length ≤ 40 ∧ (∀ x ∈ l, 0 ≤ x ∧ x ≤ 3) ∧ ∀ i : Int, 0 ≤ i → i < l.length → 0 ≤ rd l i ∧ rd l i ≤ 3 := by
  unfold okT at h
  simp only [Bool.and_eq_true, decide_eq_true_eq, List.all_eq_true] at h
  exact ⟨by omega, h.2, fun i h0 h1 => h.2 _ (rd_in l i h0 h1)⟩

def lit4 : ByteArray := ⟨#[111, 100, 99, 110]⟩
def lets (l : List Int) : List Int := l.map (bt lit4)
theorem str_append (a b : List Int) : strOfNums (a ++ b) = strOfNums a ++ strOfNums b := by
  apply ByteArray.ext
  simp [strOfNums]
theorem lit_cut (x : Int) (h0 : 0 ≤ x) (h : x ≤ 3) : lit4.extract x.toNat (x + 1).toNat = strOfNums [bt lit4 x] := by
  have : x = 0 ∨ x = 1 ∨ x = 2 ∨ x = 3 := by omega
  rcases this with rfl | rfl | rfl | rfl <;> decide
theorem lit_one (x : Int) : (strOfNums [bt lit4 x]).size = 1 := by simp [strOfNums_size]

theorem In_ (a b c : Int) : spec_l00In.f a b c = some (decide (b ≤ a ∧ a ≤ c)) := by
  unfold spec_l00In.f
  by_cases h : a ≥ b
  · rw [if_pos h]; simp [show b ≤ a from h]
  · rw [if_neg h]; simp [show ¬ b ≤ a from h]

theorem specOkT_l (l : List Int) (hl : l.length ≤ 1048576) : ∀ (d k : Nat) (i : Int), (l.length : Int) - i = d → 0 ≤ i → d < k → spec_l22Ok.l0 k l i = some ((l.drop i.toNat).all (fun x => decide (0 ≤ x ∧ x ≤ 3)) && decide ((l.length : Int) ≤ 40)) := by
  intro d
  induction d with
  | zero =>
    intro k i hd h0 hk
    obtain ⟨k, rfl⟩ : ∃ m, k = m + 1 := ⟨k - 1, by omega⟩
    simp only [spec_l22Ok.l0]; rw [if_neg (by omega), List.drop_eq_nil_of_le (by omega)]; simp
  | succ d ih =>
    intro k i hd h0 hk
    obtain ⟨k, rfl⟩ : ∃ m, k = m + 1 := ⟨k - 1, by omega⟩
    simp only [spec_l22Ok.l0]
    rw [if_pos (by omega), if_pos h0, In_, drop_rd l i h0 (by omega), w64 (by omega) (by omega), ih k (i + 1) (by omega) (by omega) (by omega)]
    simp only [Option.bind_some, List.all_cons]
    by_cases c : 0 ≤ rd l i ∧ rd l i ≤ 3
    · simp [c]
    · simp [c]
theorem SpecOkT_ (l : List Int) (hl : l.length ≤ 1048576) (k : Nat) (hk : l.length < k) : spec_l22Ok.f k l = some (okT l) := by
  unfold spec_l22Ok.f okT
  rw [specOkT_l l hl l.length k 0 (by omega) (by omega) hk]
  simp [Bool.and_comm]

theorem specText_l (g : List Int) (hg : okT g = true) : ∀ (d k : Nat) (i : Int), (g.length : Int) - i = d → 0 ≤ i → d < k → spec_l22Text.l0 k g (strOfNums (lets (g.take i.toNat))) lit4 i = some (strOfNums (lets g)) := by
  obtain ⟨g1, g2, g3⟩ := okT_says hg
  intro d
  induction d with
  | zero =>
    intro k i hd h0 hk
    obtain ⟨k, rfl⟩ : ∃ m, k = m + 1 := ⟨k - 1, by omega⟩
    simp only [spec_l22Text.l0]; rw [if_neg (by omega), List.take_of_length_le (by omega)]
  | succ d ih =>
    intro k i hd h0 hk
    obtain ⟨k, rfl⟩ : ∃ m, k = m + 1 := ⟨k - 1, by omega⟩
    have hx := g3 i h0 (by omega)
    have hl : (lets (g.take i.toNat)).length ≤ 40 := by unfold lets; rw [List.length_map, List.length_take]; omega
    have tk : g.take (i + 1).toNat = g.take i.toNat ++ [rd g i] := by
      rw [show (i + 1).toNat = i.toNat + 1 by omega, List.take_succ_eq_append_getElem (by omega)]
      unfold rd
      rw [List.getD_eq_getElem?_getD, List.getElem?_eq_getElem (by omega)]; rfl
    simp only [spec_l22Text.l0]
    rw [if_pos (by omega), if_pos h0, if_pos hx.1, w64 (n := rd g i + 1) (by omega) (by omega), if_pos (by omega), if_pos (show rd g i + 1 ≤ (lit4.size : Int) by rw [show lit4.size = 4 from rfl]; omega), lit_cut _ hx.1 hx.2, if_pos (by rw [strOfNums_size, lit_one]; omega), w64 (by omega) (by omega), ← str_append]
    have e : lets (g.take i.toNat) ++ [bt lit4 (rd g i)] = lets (g.take (i + 1).toNat) := by rw [tk]; simp [lets]
    rw [e]
    exact ih k (i + 1) (by omega) (by omega) (by omega)
theorem SpecText_ (g : List Int) (hl : g.length ≤ 1048576) (k : Nat) (hk : 1048700 ≤ k) : spec_StatesText.f k g = some (if okT g = true then strOfNums (lets g) else ⟨#[]⟩) := by
  unfold spec_StatesText.f
  rw [SpecOkT_ g hl k (by omega)]; simp only [Option.bind_some]
  by_cases h : okT g = true
  · have := okT_says h
    rw [if_pos h, if_pos h]
    have e : spec_l22Text.f k g = some (strOfNums (lets g)) := specText_l g h g.length k 0 (by omega) (by omega) (by omega)
    rw [e]; rfl
  · rw [if_neg h, if_neg h]

theorem ImplOkT_ (l : List Int) : impl_ValidStates.f l = some (okT l) := by
  unfold impl_ValidStates.f impl_allWithin.f okT
  by_cases h2 : (l.length : Int) ≤ 40
  · rw [if_pos h2, decide_eq_true h2]; simp
  · rw [if_neg h2, decide_eq_false h2]; simp

theorem implText_l (g : List Int) (hg : okT g = true) : ∀ (d k : Nat) (i : Int), (g.length : Int) - i = d → 0 ≤ i → d < k → impl_StatesText.l0 k (lets (g.take i.toNat)) g g.length i = some (strOfNums (lets g)) := by
  obtain ⟨g1, g2, g3⟩ := okT_says hg
  intro d
  induction d with
  | zero =>
    intro k i hd h0 hk
    obtain ⟨k, rfl⟩ : ∃ m, k = m + 1 := ⟨k - 1, by omega⟩
    simp only [impl_StatesText.l0]; rw [if_neg (by omega), List.take_of_length_le (by omega)]
  | succ d ih =>
    intro k i hd h0 hk
    obtain ⟨k, rfl⟩ : ∃ m, k = m + 1 := ⟨k - 1, by omega⟩
    have hx := g3 i h0 (by omega)
    have hl : (lets (g.take i.toNat)).length ≤ 40 := by unfold lets; rw [List.length_map, List.length_take]; omega
    have tk : g.take (i + 1).toNat = g.take i.toNat ++ [rd g i] := by
      rw [show (i + 1).toNat = i.toNat + 1 by omega, List.take_succ_eq_append_getElem (by omega)]
      unfold rd
      rw [List.getD_eq_getElem?_getD, List.getElem?_eq_getElem (by omega)]; rfl
    simp only [impl_StatesText.l0]
    rw [if_pos (by omega), if_pos h0, if_pos (by omega), if_pos hx.1, if_pos (by omega), if_pos (by omega), w64 (by omega) (by omega)]
    have e : lets (g.take i.toNat) ++ [bt lit4 (rd g i)] = lets (g.take (i + 1).toNat) := by rw [tk]; simp [lets]
    change impl_StatesText.l0 k (lets (g.take i.toNat) ++ [bt lit4 (rd g i)]) g g.length (i + 1) = _
    rw [e]
    exact ih k (i + 1) (by omega) (by omega) (by omega)
theorem ImplText_ (g : List Int) (k : Nat) (hk : 50 ≤ k) : impl_StatesText.f k g = some (if okT g = true then strOfNums (lets g) else ⟨#[]⟩) := by
  unfold impl_StatesText.f
  rw [ImplOkT_ g]; simp only [Option.bind_some]
  by_cases h : okT g = true
  · have := okT_says h
    rw [if_pos h, if_pos h]
    exact implText_l g h g.length k 0 (by omega) (by omega) (by omega)
  · rw [if_neg h, if_neg h]

theorem toInts_l (l : List Int) (hl : l.length ≤ 1048576) : ∀ (d k : Nat) (i : Int) (a : List Int), (l.length : Int) - i = d → 0 ≤ i → a.length = l.length → (∀ j : Int, 0 ≤ j → j < i → rd a j = rd l j) → d < k → laws_toInt64S.l0 k l a i = some l := by
  intro d
  induction d with
  | zero =>
    intro k i a hd h0 ha hr hk
    obtain ⟨k, rfl⟩ : ∃ m, k = m + 1 := ⟨k - 1, by omega⟩
    simp only [laws_toInt64S.l0]; rw [if_neg (by omega)]
    congr 1
    exact rd_ext a l ha (fun j h1 h2 => hr j h1 (by omega))
  | succ d ih =>
    intro k i a hd h0 ha hr hk
    obtain ⟨k, rfl⟩ : ∃ m, k = m + 1 := ⟨k - 1, by omega⟩
    simp only [laws_toInt64S.l0]
    rw [if_pos (by omega), if_pos h0, if_pos (by omega), w64 (by omega) (by omega)]
    refine ih k (i + 1) _ (by omega) (by omega) (by simpa using ha) (fun j h1 h2 => ?_) (by omega)
    by_cases e : j = i
    · subst e; exact rd_same _ _ _ h0 (by omega)
    · rw [rd_other _ _ _ _ h0 h1 (by omega)]; exact hr j h1 (by omega)
theorem toInts_ (l : List Int) (hl : l.length ≤ 1048576) (k : Nat) (hk : 1048577 ≤ k) : laws_toInt64S.f k l = some l := by
  unfold laws_toInt64S.f
  rw [if_pos (by omega), if_pos (by simp; omega)]
  exact toInts_l l hl l.length k 0 _ (by omega) (by omega) (by simp) (fun j h1 h2 => by omega) (by omega)

theorem eqInts_l (l : List Int) (hl : l.length ≤ 1152921504606846976) : ∀ (d k : Nat) (i : Int), (l.length : Int) - i = d → 0 ≤ i → d < k → laws_eqInt64S.l0 k l l i = some true := by
  intro d
  induction d with
  | zero =>
    intro k i hd h0 hk
    obtain ⟨k, rfl⟩ : ∃ m, k = m + 1 := ⟨k - 1, by omega⟩
    simp only [laws_eqInt64S.l0]; rw [if_neg (by omega)]
  | succ d ih =>
    intro k i hd h0 hk
    obtain ⟨k, rfl⟩ : ∃ m, k = m + 1 := ⟨k - 1, by omega⟩
    simp only [laws_eqInt64S.l0]
    rw [if_pos (by omega), if_pos h0, if_pos (by omega), if_pos trivial, w64 (by omega) (by omega)]
    exact ih k (i + 1) (by omega) (by omega) (by omega)
theorem eqInts_ (l : List Int) (hl : l.length ≤ 1152921504606846976) (k : Nat) (hk : l.length < k) : laws_eqInt64S.f k l l = some true := by
  unfold laws_eqInt64S.f
  rw [if_pos rfl]; exact eqInts_l l hl l.length k 0 (by omega) (by omega) hk

theorem eqI_ (l : List Int) (hl : l.length ≤ 1048576) (k : Nat) (hk : 1048577 ≤ k) : laws_eqInt64S.f k l l = some true := eqInts_ l (by omega) k (by omega)

theorem FnExactStatesText : laws_FnExactStatesText.Pure := by
  intro l _ _ _
  refine ⟨1048800, ?_⟩
  unfold laws_FnExactStatesText.f
  by_cases hb : (l.length : Int) > 1048576
  · rw [if_pos hb]
  have hl : l.length ≤ 1048576 := by omega
  rw [if_neg hb, toInts_ l hl _ (by omega)]; simp only [Option.bind_some]
  rw [SpecText_ l hl _ (by omega)]; simp only [Option.bind_some]
  rw [ImplText_ l _ (by omega)]; simp only [Option.bind_some, if_true]
  rw [eqI_ l hl _ (by omega)]; simp

end Go.Proofs.Ytfajacoagaamlaa.Pure
