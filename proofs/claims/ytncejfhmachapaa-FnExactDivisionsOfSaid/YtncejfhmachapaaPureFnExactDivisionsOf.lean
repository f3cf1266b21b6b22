/- For all numbers of divisions the program's DivisionsOf answers as the reference's does, in memory of its own. No condition. -/
import Derived.Test.YtncejfhmachapaaPFnExactDivisionsOfx2
import Derived.Test.YtncejfhmachapaaBase
namespace Go.Proofs.Ytncejfhmachapaa.Pure
open Go Go.RowKit Go.Proofs.Ytncejfhmachapaa.PFnExactDivisionsOf Go.Proofs.YtncejfhmachapaaW.PrintWords Go.Proofs.YtncejfhmachapaaW.PrintLast Go.Proofs.YtncejfhmachapaaW.PrintMore Go.Proofs.Ytncejfhmachapaa.Base
set_option linter.unusedVariables false
set_option linter.unusedSimpArgs false

theorem In_ (a b c : Int) : spec_l00In.f a b c = some (decide (b ≤ a ∧ a ≤ c)) := by
  unfold spec_l00In.f
  by_cases h : a ≥ b
  · rw [if_pos h]; simp [show b ≤ a from h]
  · rw [if_neg h]; simp [show ¬ b ≤ a from h]

theorem Many_ (a : Int) : spec_l20Many.f a = some (decide (1 ≤ a ∧ a ≤ 1000)) := by
  unfold spec_l20Many.f; rw [In_]; rfl

theorem Floor_ (a b : Int) (hb : 0 < b) (ha : -4611686018427387904 ≤ a) (ha2 : a ≤ 4611686018427387904) : spec_l00Floor.f a b = some (a / b) := by
  unfold spec_l00Floor.f
  rw [if_neg (by omega)]
  obtain ⟨h1, h2⟩ := ediv_bounds a b 4611686018427387904 hb ha ha2 (by omega)
  have e := floor_eq a b hb
  by_cases c : Int.tmod a b < 0
  · rw [if_pos c] at e ⊢; rw [w64 (n := Int.tdiv a b) (by omega) (by omega), w64 (by omega) (by omega), e]
  · rw [if_neg c] at e ⊢; rw [w64 (by omega) (by omega), e]

theorem Round_ (a b : Int) (hb : 0 < b) (hb2 : b ≤ 100000000000000000) (ha : -2000000000000000000 ≤ a) (ha2 : a ≤ 2000000000000000000) : spec_l00Round.f a b = some (near a b) := by
  unfold spec_l00Round.f
  rw [w64 (n := 2 * a) (by omega) (by omega), w64 (n := 2 * a + b) (by omega) (by omega), w64 (n := 2 * b) (by omega) (by omega), Floor_ _ _ (by omega) (by omega) (by omega)]
  rfl

theorem Division_ (n k : Int) (h1 : 1 ≤ n) (h2 : n ≤ 1000) (h3 : 0 ≤ k) (h4 : k ≤ 1000) : spec_l20Division.f n k = some (dv n k) := by
  unfold spec_l20Division.f dv
  rw [w64 (n := k * 1296000) (by omega) (by omega), Round_ _ _ (by omega) (by omega) (by omega) (by omega)]; rfl

def dvs (n i : Int) (d : Nat) : List Int := (List.range d).map fun (j : Nat) => dv n (i + (j : Int))
theorem dvs_succ (n i : Int) (d : Nat) : dvs n i (d + 1) = dv n i :: dvs n (i + 1) d := by
  unfold dvs
  rw [List.range_succ_eq_map, List.map_cons, List.map_map]
  congr 1
  · simp
  · apply List.map_congr_left; intro j _; simp only [Function.comp]; congr 1; omega
theorem spec_Divs_l (n : Int) (h1 : 1 ≤ n) (h2 : n ≤ 1000) : ∀ (d k : Nat) (i : Int) (l : List Int), n - i = d → 0 ≤ i → (l.length : Int) ≤ i → d < k → spec_DivisionsOf.l0 k n l i = some (l ++ dvs n i d, 0) := by
  intro d
  induction d with
  | zero =>
    intro k i l hd h0 hl hk
    obtain ⟨k, rfl⟩ : ∃ m, k = m + 1 := ⟨k - 1, by omega⟩
    simp only [spec_DivisionsOf.l0]; rw [if_neg (by omega)]; simp [dvs]
  | succ d ih =>
    intro k i l hd h0 hl hk
    obtain ⟨k, rfl⟩ : ∃ m, k = m + 1 := ⟨k - 1, by omega⟩
    simp only [spec_DivisionsOf.l0]
    rw [if_pos (by omega), Division_ _ _ h1 h2 h0 (by omega)]; simp only [Option.bind_some]
    rw [if_pos (by omega), w64 (by omega) (by omega), ih k (i + 1) _ (by omega) (by omega) (by simp; omega) (by omega), dvs_succ]
    simp
theorem SpecDivs_ (n : Int) : ∃ l c, (∀ k, 1002 ≤ k → spec_DivisionsOf.f k n = some (l, c)) ∧ l.length ≤ 1000 ∧ (c = 0 → 1 ≤ n ∧ n ≤ 1000 ∧ l = dvs n 0 n.toNat) := by
  by_cases h : 1 ≤ n ∧ n ≤ 1000
  · refine ⟨dvs n 0 n.toNat, 0, fun k hk => ?_, by simp [dvs]; omega, fun _ => ⟨h.1, h.2, rfl⟩⟩
    unfold spec_DivisionsOf.f
    rw [Many_]; simp only [Option.bind_some, decide_eq_true_eq]
    rw [if_pos h, spec_Divs_l n h.1 h.2 n.toNat k 0 _ (by omega) (by omega) (by simp) (by omega)]; simp
  · refine ⟨[], 2, fun k hk => ?_, by simp, fun h => by simp at h⟩
    unfold spec_DivisionsOf.f
    rw [Many_]; simp only [Option.bind_some, decide_eq_true_eq]
    rw [if_neg h]

theorem within_ (a b c : Int) : impl_within.f a b c = some (decide (b ≤ a ∧ a ≤ c)) := by
  unfold impl_within.f
  by_cases h : a ≥ b
  · rw [if_pos h]; simp [show b ≤ a from h]
  · rw [if_neg h]; simp [show ¬ b ≤ a from h]

theorem isRing_ (a : Int) : impl_isRing.f a = some (decide (1 ≤ a ∧ a ≤ 1000)) := by
  unfold impl_isRing.f; rw [within_]; rfl

theorem impl_Divs_l : ∀ (k : Nat) (n : Int) (l : List Int) (i : Int), impl_DivisionsOf.l0 k n l n i = spec_DivisionsOf.l0 k n l i
  | 0, _, _, _ => rfl
  | k + 1, n, l, i => by
    simp only [impl_DivisionsOf.l0, spec_DivisionsOf.l0, show impl_division.f = spec_l20Division.f from rfl, impl_Divs_l k]
theorem ImplDivs_ (k : Nat) (n : Int) : impl_DivisionsOf.f k n = spec_DivisionsOf.f k n := by
  unfold impl_DivisionsOf.f spec_DivisionsOf.f
  rw [isRing_, Many_]; simp only [impl_Divs_l]

theorem eqInts_l (l : List Int) (hl : l.length ≤ 1152921504606846976) : ∀ (d k : Nat) (i : Int), (l.length : Int) - i = d → 0 ≤ i → d < k → laws_eqInt64S.l0 k l l i = some true := by
  intro d
  induction d with
  | zero =>
    intro k i hd h0 hk
    obtain ⟨k, rfl⟩ : ∃ m, k = m + 1 := ⟨k - 1, by omega⟩
    simp only [laws_eqInt64S.l0]; rw [if_neg (by omega)]
  | succ d ih =>
    intro k i hd h0 hk
    obtain ⟨k, rfl⟩ : ∃ m, k = m + 1 := ⟨k - 1, by omega⟩
    simp only [laws_eqInt64S.l0]
    rw [if_pos (by omega), if_pos h0, if_pos (by omega), if_pos trivial, w64 (by omega) (by omega)]
    exact ih k (i + 1) (by omega) (by omega) (by omega)
theorem eqInts_ (l : List Int) (hl : l.length ≤ 1152921504606846976) (k : Nat) (hk : l.length < k) : laws_eqInt64S.f k l l = some true := by
  unfold laws_eqInt64S.f
  rw [if_pos rfl]; exact eqInts_l l hl l.length k 0 (by omega) (by omega) hk

theorem rd_set_same (l : List Int) (i : Int) (v : Int) (h0 : 0 ≤ i) (h : i < l.length) : rd (l.set i.toNat v) i = v := by
  unfold rd; simp [List.getD_eq_getElem?_getD, List.getElem?_set, show i.toNat < l.length by omega]
theorem rd_set_other (l : List Int) (i j : Int) (v : Int) (h0 : 0 ≤ i) (h1 : 0 ≤ j) (h : i ≠ j) : rd (l.set i.toNat v) j = rd l j := by
  unfold rd; simp [List.getD_eq_getElem?_getD, List.getElem?_set, show ¬ i.toNat = j.toNat by omega]
theorem mark_l : ∀ (d k : Nat) (l : List Int) (i m : Int), (l.length : Int) - i = d → 0 ≤ i → l.length ≤ 1152921504606846976 → 0 ≤ m → m + d ≤ 4611686018427387904 → d < k → ∃ l', laws_markInt64S.l0 k l m i = some (m + d, l') ∧ l'.length = l.length ∧ (∀ j, i ≤ j → j < l.length → rd l' j = m + (j - i)) ∧ ∀ j, 0 ≤ j → j < i → rd l' j = rd l j := by
  intro d
  induction d with
  | zero =>
    intro k l i m hd h0 hl hm hm2 hk
    obtain ⟨k, rfl⟩ : ∃ m, k = m + 1 := ⟨k - 1, by omega⟩
    refine ⟨l, ?_, rfl, fun j h1 h2 => by omega, fun j _ _ => rfl⟩
    simp only [laws_markInt64S.l0]; rw [if_neg (by omega)]; simp
  | succ d ih =>
    intro k l i m hd h0 hl hm hm2 hk
    obtain ⟨k, rfl⟩ : ∃ m, k = m + 1 := ⟨k - 1, by omega⟩
    obtain ⟨l', h1, h2, h3, h4⟩ := ih k (l.set i.toNat m) (i + 1) (m + 1) (by simp; omega) (by omega) (by simpa using hl) (by omega) (by omega) (by omega)
    refine ⟨l', ?_, by simpa using h2, fun j g1 g2 => ?_, fun j g1 g2 => ?_⟩
    · simp only [laws_markInt64S.l0]
      rw [if_pos (by omega), if_pos h0, w64 (n := m + 1) (by omega) (by omega), w64 (n := i + 1) (by omega) (by omega), h1]
      congr 2; omega
    · by_cases e : j = i
      · subst e; rw [h4 j h0 (by omega), rd_set_same _ _ _ h0 (by omega)]; omega
      · rw [h3 j (by omega) (by simpa using g2)]; omega
    · rw [h4 j g1 (by omega), rd_set_other _ _ _ _ h0 g1 (by omega)]
theorem held_l (l : List Int) (hl : l.length ≤ 1152921504606846976) : ∀ (d k : Nat) (i m : Int), (l.length : Int) - i = d → 0 ≤ i → 0 ≤ m → m + d ≤ 4611686018427387904 → d < k → (∀ j, i ≤ j → j < l.length → rd l j = m + (j - i)) → laws_heldInt64S.l0 k l m i = some (m + d) := by
  intro d
  induction d with
  | zero =>
    intro k i m hd h0 hm hm2 hk hr
    obtain ⟨k, rfl⟩ : ∃ m, k = m + 1 := ⟨k - 1, by omega⟩
    simp only [laws_heldInt64S.l0]; rw [if_neg (by omega)]; simp
  | succ d ih =>
    intro k i m hd h0 hm hm2 hk hr
    obtain ⟨k, rfl⟩ : ∃ m, k = m + 1 := ⟨k - 1, by omega⟩
    simp only [laws_heldInt64S.l0]
    rw [if_pos (by omega), if_pos h0, if_pos (by rw [hr i (by omega) (by omega)]; omega), w64 (n := m + 1) (by omega) (by omega), w64 (n := i + 1) (by omega) (by omega), ih k (i + 1) (m + 1) (by omega) (by omega) (by omega) (by omega) (by omega) (fun j g1 g2 => by rw [hr j (by omega) g2]; omega)]
    congr 1; omega
theorem mark_held (l : List Int) (hl : l.length ≤ 1152921504606846976) (k : Nat) (hk : l.length < k) (k' : Nat) (hk' : l.length < k') (k'' : Nat) (hk'' : l.length < k'') : ∃ l', laws_markInt64S.f k l 1 = some (1 + (l.length : Int), l') ∧ laws_heldInt64S.f k' l' 1 = some (1 + (l.length : Int)) ∧ laws_heldInt64S.f k'' l' 1 = some (1 + (l.length : Int)) := by
  obtain ⟨l', h1, h2, h3, h4⟩ := mark_l l.length k l 0 1 (by omega) (by omega) hl (by omega) (by omega) hk
  have hh : ∀ k, l.length < k → laws_heldInt64S.l0 k l' 1 0 = some (1 + (l.length : Int)) := fun k hk => held_l l' (by omega) l.length k 0 1 (by omega) (by omega) (by omega) (by omega) hk (fun j g1 g2 => h3 j g1 (by omega))
  refine ⟨l', ?_, ?_, ?_⟩
  · unfold laws_markInt64S.f; exact h1
  · unfold laws_heldInt64S.f; exact hh k' hk'
  · unfold laws_heldInt64S.f; exact hh k'' hk''

theorem FnExactDivisionsOf : laws_FnExactDivisionsOf.Pure := by
  intro a ha
  obtain ⟨l, c, hr, hl, _⟩ := SpecDivs_ a
  have hi : ∀ k, 1002 ≤ k → impl_DivisionsOf.f k a = some (l, c) := fun k hk => (ImplDivs_ k a).trans (hr k hk)
  obtain ⟨l', g1, g2, g3⟩ := mark_held l (by omega) 1003 (by omega) 1003 (by omega) 1002 (by omega)
  refine ⟨1004, ?_⟩
  unfold laws_FnExactDivisionsOf.f
  rw [hr _ (by omega)]; simp only [Option.bind_some]
  rw [hi _ (by omega)]; simp only [Option.bind_some]
  rw [eqInts_ l (by omega) _ (by omega)]; simp only [Option.bind_some, if_true, laws_FnExactDivisionsOf.j0]
  rw [if_neg (by simp), g1]; simp only [Option.bind_some]
  rw [g2]; simp only [Option.bind_some]
  rw [if_neg (by omega), if_pos trivial, hi _ (by omega)]; simp only [Option.bind_some]
  rw [eqInts_ l (by omega) _ (by omega)]; simp only [Option.bind_some, if_true, laws_FnExactDivisionsOf.j1]
  rw [if_neg (by simp), g3]; simp only [Option.bind_some]
  rw [if_neg (by omega), if_pos trivial]

end Go.Proofs.Ytncejfhmachapaa.Pure
