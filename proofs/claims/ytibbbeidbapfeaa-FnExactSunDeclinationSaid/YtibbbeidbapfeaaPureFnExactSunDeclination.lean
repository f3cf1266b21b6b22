/- For all days the program's SunDeclination answers as the reference's does. No condition. -/
import Derived.Test.YtibbbeidbapfeaaQFnExactSunDeclinationx1
import Derived.Test.YtibbbeidbapfeaaBase
import Derived.Test.YtibbbeidbapfeaaSky
namespace Go.Proofs.Ytibbbeidbapfeaa.Pure
open Go Go.RowKit Go.Proofs.Ytibbbeidbapfeaa.QFnExactSunDeclination Go.Proofs.YtibbbeidbapfeaaW.PrintWords Go.Proofs.YtibbbeidbapfeaaW.PrintLast Go.Proofs.YtibbbeidbapfeaaW.PrintMore Go.Proofs.Ytibbbeidbapfeaa.Base
set_option linter.unusedVariables false
set_option linter.unusedSimpArgs false

theorem In_ (a b c : Int) : spec_l00In.f a b c = some (decide (b ≤ a ∧ a ≤ c)) := by
  unfold spec_l00In.f
  by_cases h : a ≥ b
  · rw [if_pos h]; simp [show b ≤ a from h]
  · rw [if_neg h]; simp [show ¬ b ≤ a from h]

theorem Floor_ (a b : Int) (hb : 0 < b) (ha : -4611686018427387904 ≤ a) (ha2 : a ≤ 4611686018427387904) : spec_l00Floor.f a b = some (a / b) := by
  unfold spec_l00Floor.f
  rw [if_neg (by omega)]
  obtain ⟨h1, h2⟩ := ediv_bounds a b 4611686018427387904 hb ha ha2 (by omega)
  have e := floor_eq a b hb
  by_cases c : Int.tmod a b < 0
  · rw [if_pos c] at e ⊢; rw [w64 (n := Int.tdiv a b) (by omega) (by omega), w64 (by omega) (by omega), e]
  · rw [if_neg c] at e ⊢; rw [w64 (by omega) (by omega), e]

theorem Round_ (a b : Int) (hb : 0 < b) (hb2 : b ≤ 100000000000000000) (ha : -2000000000000000000 ≤ a) (ha2 : a ≤ 2000000000000000000) : spec_l00Round.f a b = some (near a b) := by
  unfold spec_l00Round.f
  rw [w64 (n := 2 * a) (by omega) (by omega), w64 (n := 2 * a + b) (by omega) (by omega), w64 (n := 2 * b) (by omega) (by omega), Floor_ _ _ (by omega) (by omega) (by omega)]
  rfl

theorem SpecSine_lo (k : Nat) (hk : 2 ≤ k) (x : Int) (h0 : 0 ≤ x) (h1 : x ≤ 648000) : spec_l03Sine.f k x = some (sn0 x) := by
  obtain ⟨k, rfl⟩ : ∃ m, k = m + 2 := ⟨k - 2, by omega⟩
  have tm : Int.tmod x 1296000 = x := by rw [tmod_eq _ _ (by omega), if_pos h0]; omega
  simp only [spec_l03Sine.f]
  rw [tm, if_neg (by omega)]
  simp only [spec_l03Sine.j0]
  rw [if_neg (by omega), w64 (n := 648000 - x) (by omega) (by omega)]
  have hp := pp_bounds x h0 h1
  rw [show x * (648000 - x) = pp x from rfl, w64 (n := pp x) (by omega) (by omega), w64 (n := 16 * pp x) (by omega) (by omega), w64 (n := 16 * pp x * 1000000) (by omega) (by omega), w64 (n := 5 * 648000) (by omega) (by omega), w64 (n := 5 * 648000 * 648000) (by omega) (by omega), w64 (n := 4 * pp x) (by omega) (by omega), w64 (n := 5 * 648000 * 648000 - 4 * pp x) (by omega) (by omega), Round_ _ _ (by omega) (by omega) (by omega) (by omega)]
  simp only [Option.bind_some]
  unfold sn0 sp
  rw [show 16 * pp x * 1000000 = 16000000 * pp x by omega, show 5 * 648000 * 648000 - 4 * pp x = 2099520000000 - 4 * pp x by omega]

theorem SpecSine_j (k : Nat) (hk : 3 ≤ k) (x : Int) (h0 : 0 ≤ x) (h1 : x < 1296000) : spec_l03Sine.j0 k 648000 x = some (if x ≥ 648000 then -(sn0 (x - 648000)) else sn0 x) := by
  by_cases c : x > 648000
  · obtain ⟨k, rfl⟩ : ∃ m, k = m + 1 := ⟨k - 1, by omega⟩
    simp only [spec_l03Sine.j0]
    have := sn0_bounds (x - 648000) (by omega) (by omega)
    rw [if_pos c, w64 (n := x - 648000) (by omega) (by omega), SpecSine_lo k (by omega) _ (by omega) (by omega)]
    simp only [Option.bind_some]
    rw [w64 (by omega) (by omega), if_pos (by omega)]
  · have h := SpecSine_lo (k + 1) (by omega) x h0 (by omega)
    have tm : Int.tmod x 1296000 = x := by rw [tmod_eq _ _ (by omega), if_pos h0]; omega
    simp only [spec_l03Sine.f] at h
    rw [tm, if_neg (by omega)] at h
    rw [h]
    by_cases e : x = 648000
    · subst e; decide
    · rw [if_neg (by omega)]

theorem SpecSine_ (k : Nat) (hk : 6 ≤ k) (a : Int) : spec_l03Sine.f k a = some (sn a) := by
  obtain ⟨k, rfl⟩ : ∃ m, k = m + 1 := ⟨k - 1, by omega⟩
  simp only [spec_l03Sine.f]
  have tm := tmod_eq a 1296000 (by omega)
  by_cases c : Int.tmod a 1296000 < 0
  · have e : Int.tmod a 1296000 + 1296000 = a % 1296000 := by rw [tm] at c ⊢; split at c <;> omega
    rw [if_pos c, e, w64 (by omega) (by omega), SpecSine_j k (by omega) _ (by omega) (by omega)]; rfl
  · have e : Int.tmod a 1296000 = a % 1296000 := by rw [tm] at c ⊢; split at c <;> omega
    rw [if_neg c, e, SpecSine_j k (by omega) _ (by omega) (by omega)]; rfl

theorem SpecSun21_ (k : Nat) (hk : 6 ≤ k) (a : Int) (h0 : 0 ≤ a) (h1 : a ≤ 365) : spec_l21Sun.f k a = some (sd a) := by
  unfold spec_l21Sun.f
  rw [w64 (n := a - 80) (by omega) (by omega), w64 (n := (a - 80) * 1296000) (by omega) (by omega), Floor_ _ _ (by omega) (by omega) (by omega)]; simp only [Option.bind_some]
  rw [SpecSine_ k hk]; simp only [Option.bind_some]
  have := sn_bounds ((a - 80) * 1296000 / 365)
  rw [w64 (n := 84600 * sn ((a - 80) * 1296000 / 365)) (by omega) (by omega), Round_ _ _ (by omega) (by omega) (by omega) (by omega)]; rfl

theorem SpecSunDecl_ (a : Int) (k : Nat) (hk : 6 ≤ k) : spec_SunDeclination.f k a = some (if 0 ≤ a ∧ a ≤ 364 then (sd a, 0) else (0, 2)) := by
  unfold spec_SunDeclination.f
  rw [In_]; simp only [Option.bind_some, decide_eq_true_eq]
  by_cases h : 0 ≤ a ∧ a ≤ 364
  · rw [if_pos h, if_pos h, SpecSun21_ k hk a h.1 (by omega)]; rfl
  · rw [if_neg h, if_neg h]

theorem within_ (a b c : Int) : impl_within.f a b c = some (decide (b ≤ a ∧ a ≤ c)) := by
  unfold impl_within.f
  by_cases h : a ≥ b
  · rw [if_pos h]; simp [show b ≤ a from h]
  · rw [if_neg h]; simp [show ¬ b ≤ a from h]

theorem isDay_ (a : Int) : impl_isDay.f a = some (decide (0 ≤ a ∧ a ≤ 364)) := by
  unfold impl_isDay.f; rw [within_]; rfl

theorem floorDiv_ (a b : Int) (hb : 0 < b) (ha : -4611686018427387904 ≤ a) (ha2 : a ≤ 4611686018427387904) : impl_floorDiv.f a b = some (a / b) := by
  unfold impl_floorDiv.f
  rw [if_neg (by omega)]
  obtain ⟨h1, h2⟩ := ediv_bounds a b 4611686018427387904 hb ha ha2 (by omega)
  have e := floor_eq a b hb
  by_cases c : Int.tmod a b < 0
  · rw [if_pos c] at e ⊢; rw [w64 (n := Int.tdiv a b) (by omega) (by omega), w64 (by omega) (by omega), e]
  · rw [if_neg c] at e ⊢; rw [w64 (by omega) (by omega), e]

theorem nearest_ (a b : Int) (hb : 0 < b) (hb2 : b ≤ 100000000000000000) (ha : -2000000000000000000 ≤ a) (ha2 : a ≤ 2000000000000000000) : impl_nearest.f a b = some (near a b) := by
  unfold impl_nearest.f
  rw [w64 (n := 2 * a) (by omega) (by omega), w64 (n := 2 * a + b) (by omega) (by omega), w64 (n := 2 * b) (by omega) (by omega), floorDiv_ _ _ (by omega) (by omega) (by omega)]
  rfl

theorem around_ (a : Int) (ha : -9223372036854775808 ≤ a) (ha2 : a ≤ 9223372036854775807) : impl_around.f a = some (a % 1296000) := by
  unfold impl_around.f
  have h1 : Int.tmod a 1296000 = if 0 ≤ a then a % 1296000 else -(-a % 1296000) := tmod_eq _ _ (by omega)
  have h2 : -1296000 < Int.tmod a 1296000 ∧ Int.tmod a 1296000 < 1296000 := by rw [h1]; split <;> omega
  rw [w64 (n := Int.tmod a 1296000 + 1296000) (by omega) (by omega), tmod_eq _ _ (by omega), if_pos (by omega), h1]
  split
  · congr 1; omega
  · congr 1; omega

theorem ImplSine_lo (k : Nat) (hk : 1 ≤ k) (x : Int) (h0 : 0 ≤ x) (h1 : x < 648000) : impl_sine.f k x = some (sn0 x) := by
  obtain ⟨k, rfl⟩ : ∃ m, k = m + 1 := ⟨k - 1, by omega⟩
  simp only [impl_sine.f]
  rw [around_ _ (by omega) (by omega)]; simp only [Option.bind_some]
  rw [show x % 1296000 = x by omega, if_neg (by omega), w64 (n := 648000 - x) (by omega) (by omega)]
  have hp := pp_bounds x h0 (by omega)
  rw [show x * (648000 - x) = pp x from rfl, w64 (n := pp x) (by omega) (by omega), w64 (n := 16000000 * pp x) (by omega) (by omega), w64 (n := 4 * pp x) (by omega) (by omega), w64 (n := 2099520000000 - 4 * pp x) (by omega) (by omega), nearest_ _ _ (by omega) (by omega) (by omega) (by omega)]
  rfl

theorem ImplSine_ (k : Nat) (hk : 6 ≤ k) (a : Int) (h0 : -9223372036854775808 ≤ a) (h1 : a ≤ 9223372036854775807) : impl_sine.f k a = some (sn a) := by
  by_cases c : a % 1296000 ≥ 648000
  · obtain ⟨k, rfl⟩ : ∃ m, k = m + 1 := ⟨k - 1, by omega⟩
    simp only [impl_sine.f]
    rw [around_ _ h0 h1]; simp only [Option.bind_some]
    have := sn0_bounds (a % 1296000 - 648000) (by omega) (by omega)
    rw [if_pos c, w64 (n := a % 1296000 - 648000) (by omega) (by omega), ImplSine_lo k (by omega) _ (by omega) (by omega)]
    simp only [Option.bind_some]
    rw [w64 (by omega) (by omega)]; unfold sn; rw [if_pos c]
  · have h := ImplSine_lo k (by omega) (a % 1296000) (by omega) (by omega)
    obtain ⟨k, rfl⟩ : ∃ m, k = m + 1 := ⟨k - 1, by omega⟩
    simp only [impl_sine.f] at h ⊢
    rw [around_ _ (by omega) (by omega)] at h; rw [around_ _ h0 h1]
    rw [show a % 1296000 % 1296000 = a % 1296000 by omega] at h
    unfold sn; rw [if_neg c]; exact h

theorem ImplSun21_ (k : Nat) (hk : 6 ≤ k) (a : Int) (h0 : 0 ≤ a) (h1 : a ≤ 365) : impl_sunDeclination.f k a = some (sd a) := by
  unfold impl_sunDeclination.f
  rw [w64 (n := a - 80) (by omega) (by omega), w64 (n := (a - 80) * 1296000) (by omega) (by omega), floorDiv_ _ _ (by omega) (by omega) (by omega)]; simp only [Option.bind_some]
  rw [ImplSine_ k hk _ (by omega) (by omega)]; simp only [Option.bind_some]
  have := sn_bounds ((a - 80) * 1296000 / 365)
  rw [w64 (n := 84600 * sn ((a - 80) * 1296000 / 365)) (by omega) (by omega), nearest_ _ _ (by omega) (by omega) (by omega) (by omega)]; rfl

theorem ImplSunDecl_ (a : Int) (k : Nat) (hk : 6 ≤ k) : impl_SunDeclination.f k a = some (if 0 ≤ a ∧ a ≤ 364 then (sd a, 0) else (0, 2)) := by
  unfold impl_SunDeclination.f
  rw [isDay_]; simp only [Option.bind_some, decide_eq_true_eq]
  by_cases h : 0 ≤ a ∧ a ≤ 364
  · rw [if_pos h, if_pos h, ImplSun21_ k hk a h.1 (by omega)]; rfl
  · rw [if_neg h, if_neg h]

theorem FnExactSunDeclination : laws_FnExactSunDeclination.Pure := by
  intro a ha
  refine ⟨6, ?_⟩
  unfold laws_FnExactSunDeclination.f
  exact law2 (SpecSunDecl_ a _ (by omega)) (ImplSunDecl_ a _ (by omega))

end Go.Proofs.Ytibbbeidbapfeaa.Pure
