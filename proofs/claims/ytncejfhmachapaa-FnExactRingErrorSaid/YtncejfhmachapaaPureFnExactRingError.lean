/- For all numbers of divisions the program's RingError answers as the reference's does. No condition. -/
import Derived.Test.YtncejfhmachapaaPFnExactRingErrorx1
import Derived.Test.YtncejfhmachapaaBase
namespace Go.Proofs.Ytncejfhmachapaa.Pure
open Go Go.RowKit Go.Proofs.Ytncejfhmachapaa.PFnExactRingError Go.Proofs.YtncejfhmachapaaW.PrintWords Go.Proofs.YtncejfhmachapaaW.PrintLast Go.Proofs.YtncejfhmachapaaW.PrintMore Go.Proofs.Ytncejfhmachapaa.Base
set_option linter.unusedVariables false
set_option linter.unusedSimpArgs false

theorem In_ (a b c : Int) : spec_l00In.f a b c = some (decide (b ≤ a ∧ a ≤ c)) := by
  unfold spec_l00In.f
  by_cases h : a ≥ b
  · rw [if_pos h]; simp [show b ≤ a from h]
  · rw [if_neg h]; simp [show ¬ b ≤ a from h]

theorem Many_ (a : Int) : spec_l20Many.f a = some (decide (1 ≤ a ∧ a ≤ 1000)) := by
  unfold spec_l20Many.f; rw [In_]; rfl

theorem Floor_ (a b : Int) (hb : 0 < b) (ha : -4611686018427387904 ≤ a) (ha2 : a ≤ 4611686018427387904) : spec_l00Floor.f a b = some (a / b) := by
  unfold spec_l00Floor.f
  rw [if_neg (by omega)]
  obtain ⟨h1, h2⟩ := ediv_bounds a b 4611686018427387904 hb ha ha2 (by omega)
  have e := floor_eq a b hb
  by_cases c : Int.tmod a b < 0
  · rw [if_pos c] at e ⊢; rw [w64 (n := Int.tdiv a b) (by omega) (by omega), w64 (by omega) (by omega), e]
  · rw [if_neg c] at e ⊢; rw [w64 (by omega) (by omega), e]

theorem Round_ (a b : Int) (hb : 0 < b) (hb2 : b ≤ 100000000000000000) (ha : -2000000000000000000 ≤ a) (ha2 : a ≤ 2000000000000000000) : spec_l00Round.f a b = some (near a b) := by
  unfold spec_l00Round.f
  rw [w64 (n := 2 * a) (by omega) (by omega), w64 (n := 2 * a + b) (by omega) (by omega), w64 (n := 2 * b) (by omega) (by omega), Floor_ _ _ (by omega) (by omega) (by omega)]
  rfl

theorem Division_ (n k : Int) (h1 : 1 ≤ n) (h2 : n ≤ 1000) (h3 : 0 ≤ k) (h4 : k ≤ 1000) : spec_l20Division.f n k = some (dv n k) := by
  unfold spec_l20Division.f dv
  rw [w64 (n := k * 1296000) (by omega) (by omega), Round_ _ _ (by omega) (by omega) (by omega) (by omega)]; rfl

theorem Size_ (a : Int) (ha : -9223372036854775807 ≤ a) (ha2 : a ≤ 9223372036854775807) : spec_l00Size.f a = some (ab a) := by
  unfold spec_l00Size.f ab
  by_cases h : a < 0
  · rw [if_pos h, if_pos h, w64 (by omega) (by omega)]
  · rw [if_neg h, if_neg h]

theorem Max_ (a b : Int) : spec_l00Max.f a b = some (mx a b) := by
  unfold spec_l00Max.f mx
  by_cases h : a > b
  · rw [if_pos h, if_neg (by omega)]
  · rw [if_neg h]; by_cases h2 : a < b
    · rw [if_pos h2]
    · rw [if_neg h2, show a = b by omega]

def rg (n k : Int) : Int := ab (n * dv n k - k * 1296000)
theorem rg_bounds (n k : Int) (h1 : 1 ≤ n) (h2 : n ≤ 1000) (h3 : 0 ≤ k) (h4 : k ≤ n) : -2592000000 ≤ n * dv n k ∧ n * dv n k ≤ 2592000000 := by
  obtain ⟨g1, g2⟩ := dv_bounds n k h1 h2 h3 h4
  constructor
  · have := Int.mul_le_mul_of_nonneg_left g1 (by omega : (0 : Int) ≤ n); omega
  · have := Int.mul_le_mul_of_nonneg_left g2 (by omega : (0 : Int) ≤ n); omega
theorem spec_Ring_l (n : Int) (h1 : 1 ≤ n) (h2 : n ≤ 1000) : ∀ (d k : Nat) (i w : Int), n - i = d → 0 ≤ i → 0 ≤ w → w ≤ 3888000000 → d < k → ∃ r, spec_RingError.l0 k n w i = some (r, 0) ∧ w ≤ r ∧ (∀ j, i ≤ j → j < n → rg n j ≤ r) ∧ (r = w ∨ ∃ j, i ≤ j ∧ j < n ∧ r = rg n j) := by
  intro d
  induction d with
  | zero =>
    intro k i w hd h0 hw hw2 hk
    obtain ⟨k, rfl⟩ : ∃ m, k = m + 1 := ⟨k - 1, by omega⟩
    exact ⟨w, by simp only [spec_RingError.l0]; rw [if_neg (by omega)], by omega, fun j _ _ => by omega, .inl rfl⟩
  | succ d ih =>
    intro k i w hd h0 hw hw2 hk
    obtain ⟨k, rfl⟩ : ∃ m, k = m + 1 := ⟨k - 1, by omega⟩
    obtain ⟨g1, g2⟩ := rg_bounds n i h1 h2 h0 (by omega)
    simp only [spec_RingError.l0]
    rw [if_pos (by omega), Division_ _ _ h1 h2 h0 (by omega)]; simp only [Option.bind_some]
    rw [w64 (n := n * dv n i) (by omega) (by omega), w64 (n := i * 1296000) (by omega) (by omega), w64 (n := n * dv n i - i * 1296000) (by omega) (by omega), Size_ _ (by omega) (by omega)]; simp only [Option.bind_some]
    rw [Max_]; simp only [Option.bind_some]
    have hb : rg n i ≤ 3888000000 := by unfold rg ab; split <;> omega
    have hn := ab_nonneg (n * dv n i - i * 1296000)
    have hm : mx w (rg n i) = w ∧ rg n i ≤ w ∨ mx w (rg n i) = rg n i ∧ w ≤ rg n i := by unfold mx; split <;> omega
    change 0 ≤ rg n i at hn
    rw [w64 (by omega) (by omega)]
    obtain ⟨r, hr, ha, hb2, hc⟩ := ih k (i + 1) (mx w (rg n i)) (by omega) (by omega) (by omega) (by omega) (by omega)
    refine ⟨r, hr, by omega, fun j hj hj2 => ?_, ?_⟩
    · by_cases e : j = i
      · subst e; omega
      · exact hb2 j (by omega) hj2
    · rcases hc with hc | ⟨j, hj, hj2, hc⟩
      · rcases hm with ⟨hm, _⟩ | ⟨hm, _⟩
        · left; omega
        · right; exact ⟨i, by omega, by omega, by omega⟩
      · right; exact ⟨j, by omega, hj2, hc⟩
theorem SpecRing_ (n : Int) : ∃ r, (∀ k, 1002 ≤ k → spec_RingError.f k n = some r) ∧ (1 ≤ n → n ≤ 1000 → r.2 = 0 ∧ 0 ≤ r.1 ∧ (∀ j, 0 ≤ j → j < n → rg n j ≤ r.1) ∧ (r.1 = 0 ∨ ∃ j, 0 ≤ j ∧ j < n ∧ r.1 = rg n j)) := by
  by_cases h : 1 ≤ n ∧ n ≤ 1000
  · obtain ⟨r, hr, g1, g2, g3⟩ := spec_Ring_l n h.1 h.2 n.toNat (n.toNat + 1) 0 0 (by omega) (by omega) (by omega) (by omega) (by omega)
    refine ⟨(r, 0), fun k hk => ?_, fun _ _ => ⟨rfl, g1, g2, g3⟩⟩
    unfold spec_RingError.f
    rw [Many_]; simp only [Option.bind_some, decide_eq_true_eq]
    rw [if_pos h]
    exact at_rounds (g := fun k => spec_RingError.l0 k n 0 0) (fun k => spec_RingError.mono_l k _ _ _) (by omega) hr
  · refine ⟨(0, 2), fun k hk => ?_, fun _ _ => by omega⟩
    unfold spec_RingError.f
    rw [Many_]; simp only [Option.bind_some, decide_eq_true_eq]
    rw [if_neg h]

theorem within_ (a b c : Int) : impl_within.f a b c = some (decide (b ≤ a ∧ a ≤ c)) := by
  unfold impl_within.f
  by_cases h : a ≥ b
  · rw [if_pos h]; simp [show b ≤ a from h]
  · rw [if_neg h]; simp [show ¬ b ≤ a from h]

theorem isRing_ (a : Int) : impl_isRing.f a = some (decide (1 ≤ a ∧ a ≤ 1000)) := by
  unfold impl_isRing.f; rw [within_]; rfl

theorem abs_eq (a : Int) : impl_absolute.f (wrap64 a) = spec_l00Size.f (wrap64 a) := by
  unfold impl_absolute.f spec_l00Size.f mx
  generalize hx : wrap64 a = x
  have h : -9223372036854775808 ≤ x ∧ x ≤ 9223372036854775807 := by rw [← hx]; unfold wrap64; omega
  by_cases c : x < 0
  · rw [if_pos c]
    by_cases e : x = -9223372036854775808
    · have e2 : wrap64 (-x) = x := by subst e; unfold wrap64; omega
      rw [e2, if_neg (by omega)]
    · rw [w64 (n := -x) (by omega) (by omega), if_pos (by omega)]
  · rw [if_neg c, w64 (n := -x) (by omega) (by omega), if_neg (by omega)]
theorem div_eq : impl_division.f = spec_l20Division.f := rfl
theorem impl_Ring_l : ∀ (k : Nat) (n w i : Int), impl_RingError.l0 k n w n i = spec_RingError.l0 k n w i
  | 0, _, _, _ => rfl
  | k + 1, n, w, i => by
    simp only [impl_RingError.l0, spec_RingError.l0, div_eq, abs_eq, Max_, Option.bind_some, impl_Ring_l k]
theorem ImplRing_ (k : Nat) (n : Int) : impl_RingError.f k n = spec_RingError.f k n := by
  unfold impl_RingError.f spec_RingError.f
  rw [isRing_, Many_]; simp only [impl_Ring_l]

theorem FnExactRingError : laws_FnExactRingError.Pure := by
  intro a ha
  obtain ⟨r, hr, _⟩ := SpecRing_ a
  refine ⟨1002, ?_⟩
  unfold laws_FnExactRingError.f
  exact law2 (hr _ (by omega)) ((ImplRing_ _ _).trans (hr _ (by omega)))

end Go.Proofs.Ytncejfhmachapaa.Pure
