/- For all years and days the program's SignOf answers as the reference's does. No condition. -/
import Derived.Test.YtncejfhmachapaaPFnExactSignOfx1
import Derived.Test.YtncejfhmachapaaBase
namespace Go.Proofs.Ytncejfhmachapaa.Pure
open Go Go.RowKit Go.Proofs.Ytncejfhmachapaa.PFnExactSignOf Go.Proofs.YtncejfhmachapaaW.PrintWords Go.Proofs.YtncejfhmachapaaW.PrintLast Go.Proofs.YtncejfhmachapaaW.PrintMore Go.Proofs.Ytncejfhmachapaa.Base
set_option linter.unusedVariables false
set_option linter.unusedSimpArgs false

theorem In_ (a b c : Int) : spec_l00In.f a b c = some (decide (b ≤ a ∧ a ≤ c)) := by
  unfold spec_l00In.f
  by_cases h : a ≥ b
  · rw [if_pos h]; simp [show b ≤ a from h]
  · rw [if_neg h]; simp [show ¬ b ≤ a from h]

theorem Day_ (a b : Int) : spec_l20Day.f a b = some (if (1 ≤ a ∧ a ≤ 366) ∧ 0 ≤ b ∧ b ≤ a - 1 then 0 else 2) := by
  unfold spec_l20Day.f
  rw [In_]; simp only [Option.bind_some, decide_eq_true_eq]
  by_cases h : 1 ≤ a ∧ a ≤ 366
  · rw [if_pos h, w64 (n := a - 1) (by omega) (by omega), In_]; simp only [Option.bind_some, decide_eq_true_eq]
    by_cases h2 : 0 ≤ b ∧ b ≤ a - 1
    · rw [if_pos h2, if_pos ⟨h, h2⟩]
    · rw [if_neg h2, if_neg (by omega)]
  · rw [if_neg h, if_neg (by omega)]

theorem Sun_ (a b : Int) (h1 : 1 ≤ a) (h2 : a ≤ 366) (h3 : 0 ≤ b) (h4 : b ≤ 366) : spec_l20Sun.f a b = some (b * 1296000 / a) := by
  unfold spec_l20Sun.f
  rw [if_neg (by omega), w64 (n := b * 1296000) (by omega) (by omega), Int.tdiv_eq_ediv_of_nonneg (by omega)]
  have := ediv_bounds (b * 1296000) a 474336000 (by omega) (by omega) (by omega) (by omega)
  rw [w64 (by omega) (by omega)]

theorem SpecSignOf_ (a b : Int) : spec_SignOf.f a b = some (if (1 ≤ a ∧ a ≤ 366) ∧ 0 ≤ b ∧ b ≤ a - 1 then (b * 1296000 / a / 108000, 0) else (0, 2)) := by
  unfold spec_SignOf.f
  rw [Day_]; simp only [Option.bind_some]
  by_cases h : (1 ≤ a ∧ a ≤ 366) ∧ 0 ≤ b ∧ b ≤ a - 1
  · rw [if_pos h, if_pos h, if_pos rfl, Sun_ _ _ (by omega) (by omega) (by omega) (by omega)]; simp only [Option.bind_some]
    have h0 : 0 ≤ b * 1296000 / a := Int.ediv_nonneg (by omega) (by omega)
    have := ediv_bounds (b * 1296000) a 474336000 (by omega) (by omega) (by omega) (by omega)
    rw [Int.tdiv_eq_ediv_of_nonneg h0, w64 (by omega) (by omega)]
  · rw [if_neg h, if_neg h, if_neg (by omega)]

theorem within_ (a b c : Int) : impl_within.f a b c = some (decide (b ≤ a ∧ a ≤ c)) := by
  unfold impl_within.f
  by_cases h : a ≥ b
  · rw [if_pos h]; simp [show b ≤ a from h]
  · rw [if_neg h]; simp [show ¬ b ≤ a from h]

theorem areDays_ (a : Int) : impl_areDays.f a = some (decide (1 ≤ a ∧ a ≤ 366)) := by
  unfold impl_areDays.f; rw [within_]; rfl

theorem sunOn_ (a b : Int) (h1 : 1 ≤ a) (h2 : a ≤ 366) (h3 : 0 ≤ b) (h4 : b ≤ 366) : impl_sunOn.f a b = some (b * 1296000 / a) := by
  unfold impl_sunOn.f
  rw [if_neg (by omega), w64 (n := b * 1296000) (by omega) (by omega), Int.tdiv_eq_ediv_of_nonneg (by omega)]
  have := ediv_bounds (b * 1296000) a 474336000 (by omega) (by omega) (by omega) (by omega)
  rw [w64 (by omega) (by omega)]

theorem ImplSunOn_ (a b : Int) : impl_SunOn.f a b = some (if (1 ≤ a ∧ a ≤ 366) ∧ 0 ≤ b ∧ b ≤ a - 1 then (b * 1296000 / a, 0) else (0, 2)) := by
  unfold impl_SunOn.f
  rw [areDays_]; simp only [Option.bind_some, decide_eq_true_eq]
  by_cases h : 1 ≤ a ∧ a ≤ 366
  · rw [if_pos h, w64 (n := a - 1) (by omega) (by omega), within_]; simp only [Option.bind_some, decide_eq_true_eq]
    by_cases h2 : 0 ≤ b ∧ b ≤ a - 1
    · rw [if_pos h2, if_pos ⟨h, h2⟩, sunOn_ _ _ (by omega) (by omega) (by omega) (by omega)]; rfl
    · rw [if_neg h2, if_neg (by omega)]
  · rw [if_neg h, if_neg (by omega)]

theorem ImplSignOf_ (a b : Int) : impl_SignOf.f a b = some (if (1 ≤ a ∧ a ≤ 366) ∧ 0 ≤ b ∧ b ≤ a - 1 then (b * 1296000 / a / 108000, 0) else (0, 2)) := by
  unfold impl_SignOf.f
  rw [ImplSunOn_]; simp only [Option.bind_some]
  by_cases h : (1 ≤ a ∧ a ≤ 366) ∧ 0 ≤ b ∧ b ≤ a - 1
  · rw [if_pos h, if_pos h]; simp only
    have h0 : 0 ≤ b * 1296000 / a := Int.ediv_nonneg (by omega) (by omega)
    have := ediv_bounds (b * 1296000) a 474336000 (by omega) (by omega) (by omega) (by omega)
    rw [Int.tdiv_eq_ediv_of_nonneg h0, w64 (by omega) (by omega)]
  · rw [if_neg h, if_neg h]; simp only
    rw [show Int.tdiv 0 108000 = 0 from rfl, w64 (by omega) (by omega)]

theorem FnExactSignOf : laws_FnExactSignOf.Pure := by
  intro a b ha hb
  unfold laws_FnExactSignOf.f
  rw [SpecSignOf_, ImplSignOf_]; simp

end Go.Proofs.Ytncejfhmachapaa.Pure
