/- For all numbers of divisions and angles the program's NearestDivision answers as the reference's does. No condition. -/
import Derived.Test.YtncejfhmachapaaPFnExactNearestDivisionx1
import Derived.Test.YtncejfhmachapaaBase
namespace Go.Proofs.Ytncejfhmachapaa.Pure
open Go Go.RowKit Go.Proofs.Ytncejfhmachapaa.PFnExactNearestDivision Go.Proofs.YtncejfhmachapaaW.PrintWords Go.Proofs.YtncejfhmachapaaW.PrintLast Go.Proofs.YtncejfhmachapaaW.PrintMore Go.Proofs.Ytncejfhmachapaa.Base
set_option linter.unusedVariables false
set_option linter.unusedSimpArgs false

theorem In_ (a b c : Int) : spec_l00In.f a b c = some (decide (b ≤ a ∧ a ≤ c)) := by
  unfold spec_l00In.f
  by_cases h : a ≥ b
  · rw [if_pos h]; simp [show b ≤ a from h]
  · rw [if_neg h]; simp [show ¬ b ≤ a from h]

theorem Many_ (a : Int) : spec_l20Many.f a = some (decide (1 ≤ a ∧ a ≤ 1000)) := by
  unfold spec_l20Many.f; rw [In_]; rfl

theorem Angle_ (a : Int) : spec_l02Angle.f a = some (decide (-1000000000 ≤ a ∧ a ≤ 1000000000)) := by
  unfold spec_l02Angle.f; rw [In_]; rfl

theorem Floor_ (a b : Int) (hb : 0 < b) (ha : -4611686018427387904 ≤ a) (ha2 : a ≤ 4611686018427387904) : spec_l00Floor.f a b = some (a / b) := by
  unfold spec_l00Floor.f
  rw [if_neg (by omega)]
  obtain ⟨h1, h2⟩ := ediv_bounds a b 4611686018427387904 hb ha ha2 (by omega)
  have e := floor_eq a b hb
  by_cases c : Int.tmod a b < 0
  · rw [if_pos c] at e ⊢; rw [w64 (n := Int.tdiv a b) (by omega) (by omega), w64 (by omega) (by omega), e]
  · rw [if_neg c] at e ⊢; rw [w64 (by omega) (by omega), e]

theorem Round_ (a b : Int) (hb : 0 < b) (hb2 : b ≤ 100000000000000000) (ha : -2000000000000000000 ≤ a) (ha2 : a ≤ 2000000000000000000) : spec_l00Round.f a b = some (near a b) := by
  unfold spec_l00Round.f
  rw [w64 (n := 2 * a) (by omega) (by omega), w64 (n := 2 * a + b) (by omega) (by omega), w64 (n := 2 * b) (by omega) (by omega), Floor_ _ _ (by omega) (by omega) (by omega)]
  rfl

theorem Division_ (n k : Int) (h1 : 1 ≤ n) (h2 : n ≤ 1000) (h3 : 0 ≤ k) (h4 : k ≤ 1000) : spec_l20Division.f n k = some (dv n k) := by
  unfold spec_l20Division.f dv
  rw [w64 (n := k * 1296000) (by omega) (by omega), Round_ _ _ (by omega) (by omega) (by omega) (by omega)]; rfl

theorem Wrap_ (a : Int) (ha : -4611686018427387904 ≤ a) (ha2 : a ≤ 4611686018427387904) : spec_l02Wrap.f a = some (wr a) := by
  unfold spec_l02Wrap.f wr
  rw [w64 (n := a + 648000) (by omega) (by omega), tmod_eq _ _ (by omega)]
  by_cases h : 0 ≤ a + 648000
  · rw [if_pos h, if_neg (by omega), w64 (by omega) (by omega)]
  · rw [if_neg h]
    by_cases h2 : -(-(a + 648000) % 1296000) < 0
    · rw [if_pos h2, w64 (n := -(-(a + 648000) % 1296000) + 1296000) (by omega) (by omega), w64 (by omega) (by omega)]; congr 1; omega
    · rw [if_neg h2, w64 (by omega) (by omega)]; congr 1; omega

theorem Size_ (a : Int) (ha : -9223372036854775807 ≤ a) (ha2 : a ≤ 9223372036854775807) : spec_l00Size.f a = some (ab a) := by
  unfold spec_l00Size.f ab
  by_cases h : a < 0
  · rw [if_pos h, if_pos h, w64 (by omega) (by omega)]
  · rw [if_neg h, if_neg h]

theorem spec_Near_l (n a : Int) (h1 : 1 ≤ n) (h2 : n ≤ 1000) (h3 : -1000000000 ≤ a) (h4 : a ≤ 1000000000) : ∀ (d k : Nat) (i b l : Int), n - i = d → 0 ≤ i → d < k → ∃ r, spec_NearestDivision.l0 k n a b l i = some r := by
  intro d
  induction d with
  | zero =>
    intro k i b l hd h0 hk
    obtain ⟨k, rfl⟩ : ∃ m, k = m + 1 := ⟨k - 1, by omega⟩
    exact ⟨(b, 0), by simp only [spec_NearestDivision.l0]; rw [if_neg (by omega)]⟩
  | succ d ih =>
    intro k i b l hd h0 hk
    obtain ⟨k, rfl⟩ : ∃ m, k = m + 1 := ⟨k - 1, by omega⟩
    obtain ⟨g1, g2⟩ := dv_bounds n i h1 h2 h0 (by omega)
    have g3 := wr_range (a - dv n i)
    simp only [spec_NearestDivision.l0]
    rw [if_pos (by omega), Division_ _ _ h1 h2 h0 (by omega)]; simp only [Option.bind_some]
    rw [w64 (n := a - dv n i) (by omega) (by omega), Wrap_ _ (by omega) (by omega)]; simp only [Option.bind_some]
    rw [Size_ _ (by omega) (by omega)]; simp only [Option.bind_some]
    rw [w64 (by omega) (by omega)]
    split
    · exact ih k _ _ _ (by omega) (by omega) (by omega)
    · split
      · exact ih k _ _ _ (by omega) (by omega) (by omega)
      · exact ih k _ _ _ (by omega) (by omega) (by omega)
theorem SpecNear_ (n a : Int) : ∃ r, ∀ k, 1003 ≤ k → spec_NearestDivision.f k n a = some r := by
  by_cases h : 1 ≤ n ∧ n ≤ 1000
  · by_cases h2 : -1000000000 ≤ a ∧ a ≤ 1000000000
    · obtain ⟨r, hr⟩ := spec_Near_l n a h.1 h.2 h2.1 h2.2 n.toNat (n.toNat + 1) 0 0 (-1) (by omega) (by omega) (by omega)
      refine ⟨r, fun k hk => ?_⟩
      obtain ⟨k, rfl⟩ : ∃ m, k = m + 1 := ⟨k - 1, by omega⟩
      unfold spec_NearestDivision.f
      rw [Many_, Angle_]; simp only [Option.bind_some, decide_eq_true_eq]
      rw [if_pos h]; simp only [spec_NearestDivision.j0]; rw [if_neg (by simp [h2])]
      exact at_rounds (g := fun k => spec_NearestDivision.l0 k n a 0 (-1) 0) (fun k => (spec_NearestDivision.mono_l k).2 _ _ _ _ _) (by omega) hr
    · refine ⟨(0, 2), fun k hk => ?_⟩
      obtain ⟨k, rfl⟩ : ∃ m, k = m + 1 := ⟨k - 1, by omega⟩
      unfold spec_NearestDivision.f
      rw [Many_, Angle_]; simp only [Option.bind_some, decide_eq_true_eq]
      rw [if_pos h]; simp only [spec_NearestDivision.j0]; rw [if_pos (by simp; omega)]
  · refine ⟨(0, 2), fun k hk => ?_⟩
    obtain ⟨k, rfl⟩ : ∃ m, k = m + 1 := ⟨k - 1, by omega⟩
    unfold spec_NearestDivision.f
    rw [Many_]; simp only [Option.bind_some, decide_eq_true_eq]
    rw [if_neg h]; simp only [spec_NearestDivision.j0]; simp

theorem within_ (a b c : Int) : impl_within.f a b c = some (decide (b ≤ a ∧ a ≤ c)) := by
  unfold impl_within.f
  by_cases h : a ≥ b
  · rw [if_pos h]; simp [show b ≤ a from h]
  · rw [if_neg h]; simp [show ¬ b ≤ a from h]

theorem isRing_ (a : Int) : impl_isRing.f a = some (decide (1 ≤ a ∧ a ≤ 1000)) := by
  unfold impl_isRing.f; rw [within_]; rfl

theorem isAngle_ (a : Int) : impl_isAngle.f a = some (decide (-1000000000 ≤ a ∧ a ≤ 1000000000)) := by
  unfold impl_isAngle.f; rw [within_]; rfl

theorem floorDiv_ (a b : Int) (hb : 0 < b) (ha : -4611686018427387904 ≤ a) (ha2 : a ≤ 4611686018427387904) : impl_floorDiv.f a b = some (a / b) := by
  unfold impl_floorDiv.f
  rw [if_neg (by omega)]
  obtain ⟨h1, h2⟩ := ediv_bounds a b 4611686018427387904 hb ha ha2 (by omega)
  have e := floor_eq a b hb
  by_cases c : Int.tmod a b < 0
  · rw [if_pos c] at e ⊢; rw [w64 (n := Int.tdiv a b) (by omega) (by omega), w64 (by omega) (by omega), e]
  · rw [if_neg c] at e ⊢; rw [w64 (by omega) (by omega), e]

theorem nearest_ (a b : Int) (hb : 0 < b) (hb2 : b ≤ 100000000000000000) (ha : -2000000000000000000 ≤ a) (ha2 : a ≤ 2000000000000000000) : impl_nearest.f a b = some (near a b) := by
  unfold impl_nearest.f
  rw [w64 (n := 2 * a) (by omega) (by omega), w64 (n := 2 * a + b) (by omega) (by omega), w64 (n := 2 * b) (by omega) (by omega), floorDiv_ _ _ (by omega) (by omega) (by omega)]
  rfl

theorem division_ (n k : Int) (h1 : 1 ≤ n) (h2 : n ≤ 1000) (h3 : 0 ≤ k) (h4 : k ≤ 1000) : impl_division.f n k = some (dv n k) := by
  unfold impl_division.f dv
  rw [w64 (n := k * 1296000) (by omega) (by omega), nearest_ _ _ (by omega) (by omega) (by omega) (by omega)]; rfl

theorem around_ (a : Int) (ha : -9223372036854775808 ≤ a) (ha2 : a ≤ 9223372036854775807) : impl_around.f a = some (a % 1296000) := by
  unfold impl_around.f
  have h1 : Int.tmod a 1296000 = if 0 ≤ a then a % 1296000 else -(-a % 1296000) := tmod_eq _ _ (by omega)
  have h2 : -1296000 < Int.tmod a 1296000 ∧ Int.tmod a 1296000 < 1296000 := by rw [h1]; split <;> omega
  rw [w64 (n := Int.tmod a 1296000 + 1296000) (by omega) (by omega), tmod_eq _ _ (by omega), if_pos (by omega), h1]
  split
  · congr 1; omega
  · congr 1; omega

theorem wrap_ (a : Int) (ha : -4611686018427387904 ≤ a) (ha2 : a ≤ 4611686018427387904) : impl_wrap.f a = some (wr a) := by
  unfold impl_wrap.f wr
  rw [w64 (n := a + 648000) (by omega) (by omega), around_ _ (by omega) (by omega)]
  simp only [Option.bind_some]
  rw [w64 (by omega) (by omega)]

theorem absolute_ (a : Int) (ha : -9223372036854775807 ≤ a) (ha2 : a ≤ 9223372036854775807) : impl_absolute.f a = some (ab a) := by
  unfold impl_absolute.f ab mx
  rw [w64 (n := -a) (by omega) (by omega)]
  by_cases h : a < 0
  · rw [if_pos h, if_pos (by omega)]
  · rw [if_neg h, if_neg (by omega)]

theorem impl_Near_l (n a : Int) (h1 : 1 ≤ n) (h2 : n ≤ 1000) (h3 : -1000000000 ≤ a) (h4 : a ≤ 1000000000) : ∀ (k : Nat) (i b l : Int), 0 ≤ i → impl_NearestDivision.l0 k n a b l n i = spec_NearestDivision.l0 k n a b l i
  | 0, _, _, _, _ => rfl
  | k + 1, i, b, l, hi => by
    simp only [impl_NearestDivision.l0, spec_NearestDivision.l0]
    by_cases c : i < n
    · obtain ⟨g1, g2⟩ := dv_bounds n i h1 h2 hi (by omega)
      have g3 := wr_range (a - dv n i)
      rw [if_pos c, if_pos c, Division_ _ _ h1 h2 hi (by omega), division_ _ _ h1 h2 hi (by omega)]; simp only [Option.bind_some]
      rw [w64 (n := a - dv n i) (by omega) (by omega), Wrap_ _ (by omega) (by omega), wrap_ _ (by omega) (by omega)]; simp only [Option.bind_some]
      rw [Size_ _ (by omega) (by omega), absolute_ _ (by omega) (by omega)]; simp only [Option.bind_some]
      rw [w64 (n := i + 1) (by omega) (by omega), impl_Near_l n a h1 h2 h3 h4 k (i + 1) _ _ (by omega), impl_Near_l n a h1 h2 h3 h4 k (i + 1) _ _ (by omega)]
    · rw [if_neg c, if_neg c]
theorem ImplNear_ (k : Nat) (n a : Int) : impl_NearestDivision.f k n a = spec_NearestDivision.f k n a := by
  unfold impl_NearestDivision.f spec_NearestDivision.f
  rw [isRing_, Many_, isAngle_, Angle_]; simp only [Option.bind_some, decide_eq_true_eq]
  cases k with
  | zero => rfl
  | succ k =>
    simp only [impl_NearestDivision.j0, spec_NearestDivision.j0]
    by_cases h : 1 ≤ n ∧ n ≤ 1000
    · by_cases h2 : -1000000000 ≤ a ∧ a ≤ 1000000000
      · rw [impl_Near_l n a h.1 h.2 h2.1 h2.2 k 0 _ _ (by omega)]
      · rw [if_pos h, if_pos h, if_pos (by simp; omega), if_pos (by simp; omega)]
    · rw [if_neg h, if_neg h]; simp

theorem FnExactNearestDivision : laws_FnExactNearestDivision.Pure := by
  intro a b ha hb
  obtain ⟨r, hr⟩ := SpecNear_ a b
  refine ⟨1003, ?_⟩
  unfold laws_FnExactNearestDivision.f
  exact law2 (hr _ (by omega)) ((ImplNear_ _ _ _).trans (hr _ (by omega)))

end Go.Proofs.Ytncejfhmachapaa.Pure
