/- For all texts the program's ReadStates answers as the reference's does, in memory of its own. No condition. -/
import Derived.Test.YtfajacoagaamlaaQFnExactReadStatesx2
import Derived.Test.YtfajacoagaamlaaBase
namespace Go.Proofs.Ytfajacoagaamlaa.Pure
open Go Go.RowKit Go.Proofs.Ytfajacoagaamlaa.QFnExactReadStates Go.Proofs.YtfajacoagaamlaaW.PrintWords Go.Proofs.YtfajacoagaamlaaW.PrintLast Go.Proofs.YtfajacoagaamlaaW.PrintMore Go.Proofs.Ytfajacoagaamlaa.Base
set_option linter.unusedVariables false
set_option linter.unusedSimpArgs false

def okT (l : List Int) : Bool := decide ((l.length : Int) ≤ 40) && l.all fun x => decide (0 ≤ x ∧ x ≤ 3)
theorem okT_says {l : List Int} (h : okT l = true) : l.length ≤ 40 ∧ (∀ x ∈ l, 0 ≤ x ∧ x ≤ 3) ∧ ∀ i : Int, 0 ≤ i → i < l.length → 0 ≤ rd l i ∧ rd l i ≤ 3 := by
  unfold okT at h
  simp only [Bool.and_eq_true, decide_eq_true_eq, List.all_eq_true] at h
  exact ⟨by omega, h.2, fun i h0 h1 => h.2 _ (rd_in l i h0 h1)⟩

def stOf (b : Int) : Int := if b = 111 then 0 else if b = 100 then 1 else if b = 99 then 2 else if b = 110 then 3 else -1
def stAt (s : ByteArray) (i : Int) : Int := stOf (bt s i)
theorem index_st (b : Int) (h0 : 0 ≤ b) (h1 : b < 256) : Lib.indexByte [111, 100, 99, 110] b.toNat.toUInt8 = stOf b := by
  have e : ∀ n : Fin 256, Lib.indexByte [111, 100, 99, 110] n.1.toUInt8 = stOf (n.1 : Int) := by decide +kernel
  have := e ⟨b.toNat, by omega⟩
  simp only at this
  rw [this]; congr 1; omega
def readR (m : List Int) : List Int × Bool := if okT m = true then (m, true) else ([], false)
theorem okT_bad {m : List Int} (h : -1 ∈ m) : okT m = false := by
  cases e : okT m with
  | false => rfl
  | true => have := (okT_says e).2.1 _ h; omega

theorem In_ (a b c : Int) : spec_l00In.f a b c = some (decide (b ≤ a ∧ a ≤ c)) := by
  unfold spec_l00In.f
  by_cases h : a ≥ b
  · rw [if_pos h]; simp [show b ≤ a from h]
  · rw [if_neg h]; simp [show ¬ b ≤ a from h]

theorem specOkT_l (l : List Int) (hl : l.length ≤ 1048576) : ∀ (d k : Nat) (i : Int), (l.length : Int) - i = d → 0 ≤ i → d < k → spec_l22Ok.l0 k l i = some ((l.drop i.toNat).all (fun x => decide (0 ≤ x ∧ x ≤ 3)) && decide ((l.length : Int) ≤ 40)) := by
  intro d
  induction d with
  | zero =>
    intro k i hd h0 hk
    obtain ⟨k, rfl⟩ : ∃ m, k = m + 1 := ⟨k - 1, by omega⟩
    simp only [spec_l22Ok.l0]; rw [if_neg (by omega), List.drop_eq_nil_of_le (by omega)]; simp
  | succ d ih =>
    intro k i hd h0 hk
    obtain ⟨k, rfl⟩ : ∃ m, k = m + 1 := ⟨k - 1, by omega⟩
    simp only [spec_l22Ok.l0]
    rw [if_pos (by omega), if_pos h0, In_, drop_rd l i h0 (by omega), w64 (by omega) (by omega), ih k (i + 1) (by omega) (by omega) (by omega)]
    simp only [Option.bind_some, List.all_cons]
    by_cases c : 0 ≤ rd l i ∧ rd l i ≤ 3
    · simp [c]
    · simp [c]
theorem SpecOkT_ (l : List Int) (hl : l.length ≤ 1048576) (k : Nat) (hk : l.length < k) : spec_l22Ok.f k l = some (okT l) := by
  unfold spec_l22Ok.f okT
  rw [specOkT_l l hl l.length k 0 (by omega) (by omega) hk]
  simp [Bool.and_comm]

theorem specRead_l (s : ByteArray) (hs : s.size ≤ 1048576) : ∀ (d k : Nat) (i : Int) (a : List Int), (s.size : Int) - i = d → 0 ≤ i → (a.length : Int) = i → d + 1048579 ≤ k → spec_ReadStates.l0 k s a i = some (readR (a ++ from_ (stAt s) i d)) := by
  intro d
  induction d with
  | zero =>
    intro k i a hd h0 ha hk
    obtain ⟨k, rfl⟩ : ∃ m, k = m + 1 := ⟨k - 1, by omega⟩
    simp only [spec_ReadStates.l0]; rw [if_neg (by omega), SpecOkT_ a (by omega) k (by omega)]
    simp only [Option.bind_some, from_, List.range_zero, List.map_nil, List.append_nil, readR]
    split <;> rfl
  | succ d ih =>
    intro k i a hd h0 ha hk
    obtain ⟨k, rfl⟩ : ∃ m, k = m + 1 := ⟨k - 1, by omega⟩
    simp only [spec_ReadStates.l0]
    rw [if_pos (by omega), if_pos h0, w64 (by omega) (by omega), from_succ]
    have hl : a.length < 17592186044416 := by omega
    simp only [if_pos hl]
    have step : ∀ v : Int, spec_ReadStates.l0 k s (a ++ [v]) (i + 1) = some (readR (a ++ v :: from_ (stAt s) (i + 1) d)) := fun v => by
      rw [ih k (i + 1) _ (by omega) (by omega) (by simp; omega) (by omega)]; simp
    simp only [step]
    by_cases c1 : bt s i = 111
    · rw [if_pos c1]; simp [stAt, stOf, c1]
    rw [if_neg c1]
    by_cases c2 : bt s i = 100
    · rw [if_pos c2]; simp [stAt, stOf, c2]
    rw [if_neg c2]
    by_cases c3 : bt s i = 99
    · rw [if_pos c3]; simp [stAt, stOf, c3]
    rw [if_neg c3]
    by_cases c4 : bt s i = 110
    · rw [if_pos c4]; simp [stAt, stOf, c4]
    rw [if_neg c4]
    have e : stAt s i = -1 := by simp [stAt, stOf, c1, c2, c3, c4]
    have : okT (a ++ stAt s i :: from_ (stAt s) (i + 1) d) = false := okT_bad (by simp [e])
    simp [readR, this]
theorem SpecRead_ (s : ByteArray) (hs : s.size ≤ 1048576) (k : Nat) (hk : 2097200 ≤ k) : spec_ReadStates.f k s = some (readR (from_ (stAt s) 0 s.size)) := by
  unfold spec_ReadStates.f
  rw [specRead_l s hs s.size k 0 [] (by omega) (by omega) (by simp) (by omega)]; simp

theorem ImplOkT_ (l : List Int) : impl_ValidStates.f l = some (okT l) := by
  unfold impl_ValidStates.f impl_allWithin.f okT
  by_cases h2 : (l.length : Int) ≤ 40
  · rw [if_pos h2, decide_eq_true h2]; simp
  · rw [if_neg h2, decide_eq_false h2]; simp

theorem implRead_l (s : ByteArray) (hs : s.size ≤ 1048576) : ∀ (d k : Nat) (i : Int) (a : List Int), (s.size : Int) - i = d → 0 ≤ i → (a.length : Int) = i → d < k → impl_ReadStates.l0 k s a s.size i = some (readR (a ++ from_ (stAt s) i d)) := by
  intro d
  induction d with
  | zero =>
    intro k i a hd h0 ha hk
    obtain ⟨k, rfl⟩ : ∃ m, k = m + 1 := ⟨k - 1, by omega⟩
    simp only [impl_ReadStates.l0]; rw [if_neg (by omega), ImplOkT_ a]
    simp only [Option.bind_some, from_, List.range_zero, List.map_nil, List.append_nil, readR]
    split <;> rfl
  | succ d ih =>
    intro k i a hd h0 ha hk
    obtain ⟨k, rfl⟩ : ∃ m, k = m + 1 := ⟨k - 1, by omega⟩
    obtain ⟨b0, b1⟩ := bt_range s i
    simp only [impl_ReadStates.l0]
    rw [if_pos (by omega), if_pos h0, if_pos (by omega), w64 (by omega) (by omega), from_succ]
    have e : strings_IndexByte.f (⟨#[111, 100, 99, 110]⟩ : ByteArray) (bt s i) = some (stAt s i) := by
      unfold strings_IndexByte.f
      rw [index_st _ b0 (by omega)]; rfl
    rw [e]; simp only [Option.bind_some]
    rw [if_pos (by omega), ih k (i + 1) _ (by omega) (by omega) (by simp; omega) (by omega)]; simp
theorem ImplRead_ (s : ByteArray) (hs : s.size ≤ 1048576) (k : Nat) (hk : 2097200 ≤ k) : impl_ReadStates.f k s = some (readR (from_ (stAt s) 0 s.size)) := by
  unfold impl_ReadStates.f
  rw [implRead_l s hs s.size k 0 [] (by omega) (by omega) (by simp) (by omega)]; simp

theorem eqInts_l (l : List Int) (hl : l.length ≤ 1152921504606846976) : ∀ (d k : Nat) (i : Int), (l.length : Int) - i = d → 0 ≤ i → d < k → laws_eqInt64S.l0 k l l i = some true := by
  intro d
  induction d with
  | zero =>
    intro k i hd h0 hk
    obtain ⟨k, rfl⟩ : ∃ m, k = m + 1 := ⟨k - 1, by omega⟩
    simp only [laws_eqInt64S.l0]; rw [if_neg (by omega)]
  | succ d ih =>
    intro k i hd h0 hk
    obtain ⟨k, rfl⟩ : ∃ m, k = m + 1 := ⟨k - 1, by omega⟩
    simp only [laws_eqInt64S.l0]
    rw [if_pos (by omega), if_pos h0, if_pos (by omega), if_pos trivial, w64 (by omega) (by omega)]
    exact ih k (i + 1) (by omega) (by omega) (by omega)
theorem eqInts_ (l : List Int) (hl : l.length ≤ 1152921504606846976) (k : Nat) (hk : l.length < k) : laws_eqInt64S.f k l l = some true := by
  unfold laws_eqInt64S.f
  rw [if_pos rfl]; exact eqInts_l l hl l.length k 0 (by omega) (by omega) hk

theorem eqI_ (l : List Int) (hl : l.length ≤ 1048576) (k : Nat) (hk : 1048577 ≤ k) : laws_eqInt64S.f k l l = some true := eqInts_ l (by omega) k (by omega)

theorem rd_set_same (l : List Int) (i : Int) (v : Int) (h0 : 0 ≤ i) (h : i < l.length) : rd (l.set i.toNat v) i = v := by
  unfold rd; simp [List.getD_eq_getElem?_getD, List.getElem?_set, show i.toNat < l.length by omega]
theorem rd_set_other (l : List Int) (i j : Int) (v : Int) (h0 : 0 ≤ i) (h1 : 0 ≤ j) (h : i ≠ j) : rd (l.set i.toNat v) j = rd l j := by
  unfold rd; simp [List.getD_eq_getElem?_getD, List.getElem?_set, show ¬ i.toNat = j.toNat by omega]
theorem mark_l : ∀ (d k : Nat) (l : List Int) (i m : Int), (l.length : Int) - i = d → 0 ≤ i → l.length ≤ 1152921504606846976 → 0 ≤ m → m + d ≤ 4611686018427387904 → d < k → ∃ l', laws_markInt64S.l0 k l m i = some (m + d, l') ∧ l'.length = l.length ∧ (∀ j, i ≤ j → j < l.length → rd l' j = m + (j - i)) ∧ ∀ j, 0 ≤ j → j < i → rd l' j = rd l j := by
  intro d
  induction d with
  | zero =>
    intro k l i m hd h0 hl hm hm2 hk
    obtain ⟨k, rfl⟩ : ∃ m, k = m + 1 := ⟨k - 1, by omega⟩
    refine ⟨l, ?_, rfl, fun j h1 h2 => by omega, fun j _ _ => rfl⟩
    simp only [laws_markInt64S.l0]; rw [if_neg (by omega)]; simp
  | succ d ih =>
    intro k l i m hd h0 hl hm hm2 hk
    obtain ⟨k, rfl⟩ : ∃ m, k = m + 1 := ⟨k - 1, by omega⟩
    obtain ⟨l', h1, h2, h3, h4⟩ := ih k (l.set i.toNat m) (i + 1) (m + 1) (by simp; omega) (by omega) (by simpa using hl) (by omega) (by omega) (by omega)
    refine ⟨l', ?_, by simpa using h2, fun j g1 g2 => ?_, fun j g1 g2 => ?_⟩
    · simp only [laws_markInt64S.l0]
      rw [if_pos (by omega), if_pos h0, w64 (n := m + 1) (by omega) (by omega), w64 (n := i + 1) (by omega) (by omega), h1]
      congr 2; omega
    · by_cases e : j = i
      · subst e; rw [h4 j h0 (by omega), rd_set_same _ _ _ h0 (by omega)]; omega
      · rw [h3 j (by omega) (by simpa using g2)]; omega
    · rw [h4 j g1 (by omega), rd_set_other _ _ _ _ h0 g1 (by omega)]
theorem held_l (l : List Int) (hl : l.length ≤ 1152921504606846976) : ∀ (d k : Nat) (i m : Int), (l.length : Int) - i = d → 0 ≤ i → 0 ≤ m → m + d ≤ 4611686018427387904 → d < k → (∀ j, i ≤ j → j < l.length → rd l j = m + (j - i)) → laws_heldInt64S.l0 k l m i = some (m + d) := by
  intro d
  induction d with
  | zero =>
    intro k i m hd h0 hm hm2 hk hr
    obtain ⟨k, rfl⟩ : ∃ m, k = m + 1 := ⟨k - 1, by omega⟩
    simp only [laws_heldInt64S.l0]; rw [if_neg (by omega)]; simp
  | succ d ih =>
    intro k i m hd h0 hm hm2 hk hr
    obtain ⟨k, rfl⟩ : ∃ m, k = m + 1 := ⟨k - 1, by omega⟩
    simp only [laws_heldInt64S.l0]
    rw [if_pos (by omega), if_pos h0, if_pos (by rw [hr i (by omega) (by omega)]; omega), w64 (n := m + 1) (by omega) (by omega), w64 (n := i + 1) (by omega) (by omega), ih k (i + 1) (m + 1) (by omega) (by omega) (by omega) (by omega) (by omega) (fun j g1 g2 => by rw [hr j (by omega) g2]; omega)]
    congr 1; omega
theorem mark_held (l : List Int) (hl : l.length ≤ 1152921504606846976) (k : Nat) (hk : l.length < k) (k' : Nat) (hk' : l.length < k') (k'' : Nat) (hk'' : l.length < k'') : ∃ l', laws_markInt64S.f k l 1 = some (1 + (l.length : Int), l') ∧ laws_heldInt64S.f k' l' 1 = some (1 + (l.length : Int)) ∧ laws_heldInt64S.f k'' l' 1 = some (1 + (l.length : Int)) := by
  obtain ⟨l', h1, h2, h3, h4⟩ := mark_l l.length k l 0 1 (by omega) (by omega) hl (by omega) (by omega) hk
  have hh : ∀ k, l.length < k → laws_heldInt64S.l0 k l' 1 0 = some (1 + (l.length : Int)) := fun k hk => held_l l' (by omega) l.length k 0 1 (by omega) (by omega) (by omega) (by omega) hk (fun j g1 g2 => h3 j g1 (by omega))
  refine ⟨l', ?_, ?_, ?_⟩
  · unfold laws_markInt64S.f; exact h1
  · unfold laws_heldInt64S.f; exact hh k' hk'
  · unfold laws_heldInt64S.f; exact hh k'' hk''

theorem mkI_ (l : List Int) (hl : l.length ≤ 1048576) (m : Int) (h0 : 0 ≤ m) (h1 : m ≤ 1000000000) : ∃ l', ∀ k, 1048577 ≤ k → laws_markInt64S.f k l m = some (m + (l.length : Int), l') := by
  obtain ⟨l', h, _⟩ := mark_l l.length 1048577 l 0 m (by omega) (by omega) (by omega) (by omega) (by omega) (by omega)
  refine ⟨l', fun k hk => ?_⟩
  exact at_rounds (g := fun k => laws_markInt64S.f k l m) (fun k => laws_markInt64S.mono _ _ _) hk (by unfold laws_markInt64S.f; exact h)
theorem mkH_ (l : List Int) (hl : l.length ≤ 1048576) : ∃ l', (∀ k, 1048577 ≤ k → laws_markInt64S.f k l 1 = some (1 + (l.length : Int), l')) ∧ ∀ k, 1048577 ≤ k → laws_heldInt64S.f k l' 1 = some (1 + (l.length : Int)) := by
  obtain ⟨l', h1, h2, h3⟩ := mark_held l (by omega) 1048577 (by omega) 1048577 (by omega) 1048577 (by omega)
  refine ⟨l', fun k hk => ?_, fun k hk => ?_⟩
  · exact at_rounds (g := fun k => laws_markInt64S.f k l 1) (fun k => laws_markInt64S.mono _ _ _) hk h1
  · exact at_rounds (g := fun k => laws_heldInt64S.f k l' 1) (fun k => laws_heldInt64S.mono _ _ _) hk h2

theorem FnExactReadStates : laws_FnExactReadStates.Pure := by
  intro s _
  refine ⟨2097300, ?_⟩
  unfold laws_FnExactReadStates.f
  by_cases hb : (s.size : Int) > 1048576
  · rw [if_pos hb]
  have hl : s.size ≤ 1048576 := by omega
  have hS : ∀ k, 2097200 ≤ k → spec_ReadStates.f k s = some (readR (from_ (stAt s) 0 s.size)) := fun k hk => SpecRead_ s hl k hk
  have hI : ∀ k, 2097200 ≤ k → impl_ReadStates.f k s = some (readR (from_ (stAt s) 0 s.size)) := fun k hk => ImplRead_ s hl k hk
  have hrl0 : (readR (from_ (stAt s) 0 s.size)).1.length ≤ 1048576 := by
    unfold readR; split
    · simp only [from_len]; omega
    · simp
  generalize readR (from_ (stAt s) 0 s.size) = r at hS hI hrl0
  obtain ⟨R, c⟩ := r
  have hrl : R.length ≤ 1048576 := hrl0
  have hER := eqI_ R hrl
  obtain ⟨R', hMR, hH⟩ := mkH_ R hrl
  have n2 : ¬ (1 + (R.length : Int) < 0) := by omega
  rw [if_neg hb, hS _ (by omega)]; simp only [Option.bind_some]
  rw [hI _ (by omega)]; simp only [Option.bind_some]
  rw [hER _ (by omega)]; simp only [Option.bind_some, if_true, laws_FnExactReadStates.j0, bne_self_eq_false, Bool.false_eq_true, if_false]
  rw [hMR _ (by omega)]; simp only [Option.bind_some]
  rw [hH _ (by omega)]; simp only [Option.bind_some]
  rw [if_neg n2]; simp only [if_true]; rw [hI _ (by omega)]; simp only [Option.bind_some]
  rw [hER _ (by omega)]; simp only [Option.bind_some, if_true, laws_FnExactReadStates.j1, bne_self_eq_false, Bool.false_eq_true, if_false]
  rw [hH _ (by omega)]; simp only [Option.bind_some]
  rw [if_neg n2]; simp

end Go.Proofs.Ytfajacoagaamlaa.Pure
