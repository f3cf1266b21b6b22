/- For all gores, times and limits the program's HandsFor answers as the reference's does. No condition. -/
import Derived.Test.YtfpddpkloplpeaaQFnExactHandsForx1
import Derived.Test.YtfpddpkloplpeaaBase
namespace Go.Proofs.Ytfpddpkloplpeaa.Pure
open Go Go.RowKit Go.Proofs.Ytfpddpkloplpeaa.QFnExactHandsFor Go.Proofs.YtfpddpkloplpeaaW.PrintWords Go.Proofs.YtfpddpkloplpeaaW.PrintLast Go.Proofs.YtfpddpkloplpeaaW.PrintMore Go.Proofs.Ytfpddpkloplpeaa.Base
set_option linter.unusedVariables false
set_option linter.unusedSimpArgs false

theorem floorDiv_ (a b : Int) (hb : 0 < b) (ha : -4611686018427387904 ≤ a) (ha2 : a ≤ 4611686018427387904) : impl_floorDiv.f a b = some (a / b) := by
  unfold impl_floorDiv.f
  rw [if_neg (by omega)]
  obtain ⟨h1, h2⟩ := ediv_bounds a b 4611686018427387904 hb ha ha2 (by omega)
  have e := floor_eq a b hb
  by_cases c : Int.tmod a b < 0
  · rw [if_pos c] at e ⊢; rw [w64 (n := Int.tdiv a b) (by omega) (by omega), w64 (by omega) (by omega), e]
  · rw [if_neg c] at e ⊢; rw [w64 (by omega) (by omega), e]

theorem ceilDiv_ (a b : Int) (hb : 0 < b) (ha : 0 ≤ a) (ha2 : a ≤ 1000000000) : impl_ceilDiv.f a b = some (-((-a) / b)) := by
  unfold impl_ceilDiv.f
  obtain ⟨h1, h2⟩ := ediv_bounds (-a) b 1000000000 hb (by omega) (by omega) (by omega)
  rw [w64 (n := -a) (by omega) (by omega), floorDiv_ _ _ hb (by omega) (by omega)]; simp only [Option.bind_some]
  rw [w64 (by omega) (by omega)]

theorem In_ (a b c : Int) : spec_l00In.f a b c = some (decide (b ≤ a ∧ a ≤ c)) := by
  unfold spec_l00In.f
  by_cases h : a ≥ b
  · rw [if_pos h]; simp [show b ≤ a from h]
  · rw [if_neg h]; simp [show ¬ b ≤ a from h]

theorem within_ (a b c : Int) : impl_within.f a b c = some (decide (b ≤ a ∧ a ≤ c)) := by
  unfold impl_within.f
  by_cases h : a ≥ b
  · rw [if_pos h]; simp [show b ≤ a from h]
  · rw [if_neg h]; simp [show ¬ b ≤ a from h]

theorem hands_l (a b c : Int) (ha : 1 ≤ a) (ha2 : a ≤ 48) : ∀ (k : Nat) (i : Int), 1 ≤ i → i ≤ 5 → impl_HandsFor.l0 k a b c i = spec_HandsFor.l0 k a b c i
  | 0, _, _, _ => rfl
  | k + 1, i, h1, h2 => by
    simp only [impl_HandsFor.l0, spec_HandsFor.l0]
    by_cases h : i ≤ 4
    · rw [if_pos h, if_pos h, if_neg (show ¬ i = 0 by omega), ceilDiv_ _ _ (by omega) (by omega) (by omega)]; simp only [Option.bind_some]
      have e : wrap64 (Int.tdiv (wrap64 ((wrap64 (a + i)) - 1)) i) = -((-a) / i) := by
        rw [w64 (n := a + i) (by omega) (by omega), w64 (n := a + i - 1) (by omega) (by omega), Int.tdiv_eq_ediv_of_nonneg (by omega)]
        have hi : i = 1 ∨ i = 2 ∨ i = 3 ∨ i = 4 := by omega
        rcases hi with rfl | rfl | rfl | rfl <;> (rw [w64 (by omega) (by omega)]; omega)
      rw [e, w64 (n := i + 1) (by omega) (by omega), hands_l a b c ha ha2 k (i + 1) (by omega) (by omega)]
    · rw [if_neg h, if_neg h]

theorem spec_hands_l (a b c : Int) : ∀ (d k : Nat) (i : Int), 5 - i = d → 1 ≤ i → d < k → ∃ r, spec_HandsFor.l0 k a b c i = some r := by
  intro d
  induction d with
  | zero =>
    intro k i hd h0 hk
    obtain ⟨k, rfl⟩ : ∃ m, k = m + 1 := ⟨k - 1, by omega⟩
    exact ⟨(0, 3), by simp only [spec_HandsFor.l0]; rw [if_neg (by omega)]⟩
  | succ d ih =>
    intro k i hd h0 hk
    obtain ⟨k, rfl⟩ : ∃ m, k = m + 1 := ⟨k - 1, by omega⟩
    simp only [spec_HandsFor.l0]
    rw [if_pos (by omega), if_neg (show ¬ i = 0 by omega), w64 (n := i + 1) (by omega) (by omega)]
    by_cases g : (wrap64 ((wrap64 (Int.tdiv (wrap64 ((wrap64 (a + i)) - 1)) i)) * b)) ≤ c
    · rw [if_pos g]; exact ⟨_, rfl⟩
    · rw [if_neg g]; exact ih k (i + 1) (by omega) (by omega) (by omega)

theorem Hands_ (a b c : Int) : ∃ r, spec_HandsFor.f 10 a b c = some r ∧ impl_HandsFor.f 10 a b c = some r := by
  unfold spec_HandsFor.f impl_HandsFor.f
  rw [In_, In_, In_, within_, within_, within_]; simp only [Option.bind_some, decide_eq_true_eq]
  by_cases h1 : 1 ≤ a ∧ a ≤ 48
  · rw [if_pos h1, if_pos h1]
    by_cases h2 : 1 ≤ b ∧ b ≤ 1000
    · rw [if_pos h2, if_pos h2]; simp only [impl_HandsFor.j0, spec_HandsFor.j0]
      by_cases h3 : 0 ≤ c ∧ c ≤ 1000000
      · rw [if_neg (by simp [h3]), if_neg (by simp [h3])]
        obtain ⟨r, hr⟩ := spec_hands_l a b c 4 9 1 (by omega) (by omega) (by omega)
        exact ⟨r, hr, (hands_l a b c h1.1 h1.2 9 1 (by omega) (by omega)).trans hr⟩
      · rw [if_pos (by simp; omega), if_pos (by simp; omega)]; exact ⟨_, rfl, rfl⟩
    · rw [if_neg h2, if_neg h2]; simp only [impl_HandsFor.j0, spec_HandsFor.j0, if_true]; exact ⟨_, rfl, rfl⟩
  · rw [if_neg h1, if_neg h1]; simp only [impl_HandsFor.j0, spec_HandsFor.j0, if_true]; exact ⟨_, rfl, rfl⟩

theorem FnExactHandsFor : laws_FnExactHandsFor.Pure := by
  intro a b c _ _ _
  refine ⟨10, ?_⟩
  unfold laws_FnExactHandsFor.f
  obtain ⟨r, h1, h2⟩ := Hands_ a b c
  rw [h1, h2]; simp

end Go.Proofs.Ytfpddpkloplpeaa.Pure
