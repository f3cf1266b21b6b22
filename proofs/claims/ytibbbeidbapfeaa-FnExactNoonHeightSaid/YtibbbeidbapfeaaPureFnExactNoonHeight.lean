/- For all latitudes and declinations the program's NoonHeight answers as the reference's does. No condition. -/
import Derived.Test.YtibbbeidbapfeaaPFnExactNoonHeightx1
import Derived.Test.YtibbbeidbapfeaaBase
import Derived.Test.YtibbbeidbapfeaaSky
namespace Go.Proofs.Ytibbbeidbapfeaa.Pure
open Go Go.RowKit Go.Proofs.Ytibbbeidbapfeaa.PFnExactNoonHeight Go.Proofs.YtibbbeidbapfeaaW.PrintWords Go.Proofs.YtibbbeidbapfeaaW.PrintLast Go.Proofs.YtibbbeidbapfeaaW.PrintMore Go.Proofs.Ytibbbeidbapfeaa.Base
set_option linter.unusedVariables false
set_option linter.unusedSimpArgs false

theorem In_ (a b c : Int) : spec_l00In.f a b c = some (decide (b ≤ a ∧ a ≤ c)) := by
  unfold spec_l00In.f
  by_cases h : a ≥ b
  · rw [if_pos h]; simp [show b ≤ a from h]
  · rw [if_neg h]; simp [show ¬ b ≤ a from h]

theorem Lat_ (a : Int) : spec_l21Lat.f a = some (decide (-324000 ≤ a ∧ a ≤ 324000)) := by
  unfold spec_l21Lat.f; rw [In_]; rfl

theorem Code21_ (l d h : Int) : spec_l21Code.f l d h = some (if (-324000 ≤ l ∧ l ≤ 324000) ∧ (-324000 ≤ d ∧ d ≤ 324000) ∧ 0 ≤ h ∧ h ≤ 648000 then 0 else 2) := by
  unfold spec_l21Code.f
  rw [Lat_, Lat_, In_]; simp only [Option.bind_some, decide_eq_true_eq]
  by_cases h1 : -324000 ≤ l ∧ l ≤ 324000
  · by_cases h2 : -324000 ≤ d ∧ d ≤ 324000
    · by_cases h3 : 0 ≤ h ∧ h ≤ 648000
      · rw [if_pos h1, if_pos h2, if_pos h3, if_pos ⟨h1, h2, h3⟩]
      · rw [if_pos h1, if_pos h2, if_neg h3, if_neg (by omega)]
    · rw [if_pos h1, if_neg h2, if_neg (by omega)]
  · rw [if_neg h1, if_neg (by omega)]

theorem Size_ (a : Int) (ha : -9223372036854775807 ≤ a) (ha2 : a ≤ 9223372036854775807) : spec_l00Size.f a = some (ab a) := by
  unfold spec_l00Size.f ab
  by_cases h : a < 0
  · rw [if_pos h, if_pos h, w64 (by omega) (by omega)]
  · rw [if_neg h, if_neg h]

theorem SpecNoon_ (l d : Int) : spec_NoonHeight.f l d = some (if (-324000 ≤ l ∧ l ≤ 324000) ∧ (-324000 ≤ d ∧ d ≤ 324000) then (324000 - ab (l - d), 0) else (0, 2)) := by
  unfold spec_NoonHeight.f
  rw [Code21_]; simp only [Option.bind_some]
  by_cases h : (-324000 ≤ l ∧ l ≤ 324000) ∧ (-324000 ≤ d ∧ d ≤ 324000)
  · rw [if_pos (show _ ∧ _ ∧ _ from ⟨h.1, h.2, by omega, by omega⟩), if_pos rfl, if_pos h, w64 (n := l - d) (by omega) (by omega), Size_ _ (by omega) (by omega)]; simp only [Option.bind_some]
    have : 0 ≤ ab (l - d) ∧ ab (l - d) ≤ 648000 := by unfold ab; split <;> omega
    rw [w64 (by omega) (by omega)]
  · rw [if_neg (by omega), if_neg (by omega), if_neg h]

theorem within_ (a b c : Int) : impl_within.f a b c = some (decide (b ≤ a ∧ a ≤ c)) := by
  unfold impl_within.f
  by_cases h : a ≥ b
  · rw [if_pos h]; simp [show b ≤ a from h]
  · rw [if_neg h]; simp [show ¬ b ≤ a from h]

theorem isLat_ (a : Int) : impl_isLat.f a = some (decide (-324000 ≤ a ∧ a ≤ 324000)) := by
  unfold impl_isLat.f; rw [within_]; rfl

theorem absolute_ (a : Int) (ha : -9223372036854775807 ≤ a) (ha2 : a ≤ 9223372036854775807) : impl_absolute.f a = some (ab a) := by
  unfold impl_absolute.f ab mx
  rw [w64 (n := -a) (by omega) (by omega)]
  by_cases h : a < 0
  · rw [if_pos h, if_pos (by omega)]
  · rw [if_neg h, if_neg (by omega)]

theorem ImplNoon_ (l d : Int) : impl_NoonHeight.f l d = some (if (-324000 ≤ l ∧ l ≤ 324000) ∧ (-324000 ≤ d ∧ d ≤ 324000) then (324000 - ab (l - d), 0) else (0, 2)) := by
  unfold impl_NoonHeight.f
  rw [isLat_, isLat_]; simp only [Option.bind_some, decide_eq_true_eq]
  by_cases h1 : -324000 ≤ l ∧ l ≤ 324000
  · by_cases h2 : -324000 ≤ d ∧ d ≤ 324000
    · have : 0 ≤ ab (l - d) ∧ ab (l - d) ≤ 648000 := by unfold ab; split <;> omega
      rw [if_pos h1, if_pos h2, if_pos ⟨h1, h2⟩, w64 (n := l - d) (by omega) (by omega), absolute_ _ (by omega) (by omega)]; simp only [Option.bind_some]
      rw [w64 (by omega) (by omega)]
    · rw [if_pos h1, if_neg h2, if_neg (by omega)]
  · rw [if_neg h1, if_neg (by omega)]

theorem FnExactNoonHeight : laws_FnExactNoonHeight.Pure := by
  intro a b ha hb
  unfold laws_FnExactNoonHeight.f
  exact law2 (SpecNoon_ a b) (ImplNoon_ a b)

end Go.Proofs.Ytibbbeidbapfeaa.Pure
