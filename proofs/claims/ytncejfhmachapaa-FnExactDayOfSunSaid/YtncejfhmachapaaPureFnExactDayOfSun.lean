/- For all years and longitudes the program's DayOfSun answers as the reference's does. No condition. -/
import Derived.Test.YtncejfhmachapaaPFnExactDayOfSunx1
import Derived.Test.YtncejfhmachapaaBase
namespace Go.Proofs.Ytncejfhmachapaa.Pure
open Go Go.RowKit Go.Proofs.Ytncejfhmachapaa.PFnExactDayOfSun Go.Proofs.YtncejfhmachapaaW.PrintWords Go.Proofs.YtncejfhmachapaaW.PrintLast Go.Proofs.YtncejfhmachapaaW.PrintMore Go.Proofs.Ytncejfhmachapaa.Base
set_option linter.unusedVariables false
set_option linter.unusedSimpArgs false

theorem In_ (a b c : Int) : spec_l00In.f a b c = some (decide (b ≤ a ∧ a ≤ c)) := by
  unfold spec_l00In.f
  by_cases h : a ≥ b
  · rw [if_pos h]; simp [show b ≤ a from h]
  · rw [if_neg h]; simp [show ¬ b ≤ a from h]

theorem Sun_ (a b : Int) (h1 : 1 ≤ a) (h2 : a ≤ 366) (h3 : 0 ≤ b) (h4 : b ≤ 366) : spec_l20Sun.f a b = some (b * 1296000 / a) := by
  unfold spec_l20Sun.f
  rw [if_neg (by omega), w64 (n := b * 1296000) (by omega) (by omega), Int.tdiv_eq_ediv_of_nonneg (by omega)]
  have := ediv_bounds (b * 1296000) a 474336000 (by omega) (by omega) (by omega) (by omega)
  rw [w64 (by omega) (by omega)]

theorem spec_DayOfSun_l (a b : Int) (h1 : 1 ≤ a) (h2 : a ≤ 366) : ∀ (d k : Nat) (i : Int), a - i = d → 0 ≤ i → d < k → ∃ r, spec_DayOfSun.l0 k a b i = some r ∧ (r.2 = 0 → i ≤ r.1 ∧ r.1 < a ∧ b ≤ r.1 * 1296000 / a ∧ ∀ j, i ≤ j → j < r.1 → j * 1296000 / a < b) := by
  intro d
  induction d with
  | zero =>
    intro k i hd h0 hk
    obtain ⟨k, rfl⟩ : ∃ m, k = m + 1 := ⟨k - 1, by omega⟩
    exact ⟨(0, 3), by simp only [spec_DayOfSun.l0]; rw [if_neg (by omega)], fun h => by simp at h⟩
  | succ d ih =>
    intro k i hd h0 hk
    obtain ⟨k, rfl⟩ : ∃ m, k = m + 1 := ⟨k - 1, by omega⟩
    simp only [spec_DayOfSun.l0]
    rw [if_pos (by omega), Sun_ _ _ h1 h2 h0 (by omega)]; simp only [Option.bind_some]
    by_cases c : i * 1296000 / a ≥ b
    · rw [if_pos c]; exact ⟨_, rfl, fun _ => ⟨by simp, by simp; omega, by simpa using c, fun j hj hj2 => by simp at hj2; omega⟩⟩
    · rw [if_neg c, w64 (by omega) (by omega)]
      obtain ⟨r, hr, h⟩ := ih k (i + 1) (by omega) (by omega) (by omega)
      refine ⟨r, hr, fun h3 => ?_⟩
      obtain ⟨g1, g2, g3, g4⟩ := h h3
      refine ⟨by omega, g2, g3, fun j hj hj2 => ?_⟩
      by_cases e : j = i
      · subst e; omega
      · exact g4 j (by omega) hj2

theorem SpecDayOfSun_ (a b : Int) : ∃ r, (∀ k, 368 ≤ k → spec_DayOfSun.f k a b = some r) ∧ (r.2 = 0 → 1 ≤ a ∧ a ≤ 366 ∧ 0 ≤ r.1 ∧ r.1 < a ∧ b ≤ r.1 * 1296000 / a ∧ ∀ j, 0 ≤ j → j < r.1 → j * 1296000 / a < b) := by
  by_cases h : 1 ≤ a ∧ a ≤ 366
  · by_cases h2 : 0 ≤ b ∧ b ≤ 1295999
    · obtain ⟨r, hr, hp⟩ := spec_DayOfSun_l a b h.1 h.2 a.toNat (a.toNat + 1) 0 (by omega) (by omega) (by omega)
      refine ⟨r, fun k hk => ?_, fun h3 => ⟨h.1, h.2, hp h3⟩⟩
      obtain ⟨k, rfl⟩ : ∃ m, k = m + 1 := ⟨k - 1, by omega⟩
      unfold spec_DayOfSun.f
      rw [In_, In_]; simp only [Option.bind_some, decide_eq_true_eq]
      rw [if_pos h]; simp only [spec_DayOfSun.j0]; rw [if_neg (by simp [h2])]
      exact at_rounds (g := fun k => spec_DayOfSun.l0 k a b 0) (fun k => (spec_DayOfSun.mono_l k).2 _ _ _) (by omega) hr
    · refine ⟨(0, 2), fun k hk => ?_, fun h3 => by simp at h3⟩
      obtain ⟨k, rfl⟩ : ∃ m, k = m + 1 := ⟨k - 1, by omega⟩
      unfold spec_DayOfSun.f
      rw [In_, In_]; simp only [Option.bind_some, decide_eq_true_eq]
      rw [if_pos h]; simp only [spec_DayOfSun.j0]; rw [if_pos (by simp; omega)]
  · refine ⟨(0, 2), fun k hk => ?_, fun h3 => by simp at h3⟩
    obtain ⟨k, rfl⟩ : ∃ m, k = m + 1 := ⟨k - 1, by omega⟩
    unfold spec_DayOfSun.f
    rw [In_]; simp only [Option.bind_some, decide_eq_true_eq]
    rw [if_neg h]; simp only [spec_DayOfSun.j0]; simp

theorem within_ (a b c : Int) : impl_within.f a b c = some (decide (b ≤ a ∧ a ≤ c)) := by
  unfold impl_within.f
  by_cases h : a ≥ b
  · rw [if_pos h]; simp [show b ≤ a from h]
  · rw [if_neg h]; simp [show ¬ b ≤ a from h]

theorem areDays_ (a : Int) : impl_areDays.f a = some (decide (1 ≤ a ∧ a ≤ 366)) := by
  unfold impl_areDays.f; rw [within_]; rfl

theorem impl_DayOfSun_l : ∀ (k : Nat) (a b i : Int), impl_DayOfSun.l0 k a b a i = spec_DayOfSun.l0 k a b i
  | 0, _, _, _ => rfl
  | k + 1, a, b, i => by
    simp only [impl_DayOfSun.l0, spec_DayOfSun.l0]
    rw [show impl_sunOn.f = spec_l20Sun.f from rfl]
    simp only [impl_DayOfSun_l k]

theorem ImplDayOfSun_ (k : Nat) (a b : Int) : impl_DayOfSun.f k a b = spec_DayOfSun.f k a b := by
  unfold impl_DayOfSun.f spec_DayOfSun.f
  rw [areDays_, In_, within_, In_]; simp only [Option.bind_some]
  cases k with
  | zero => rfl
  | succ k => simp only [impl_DayOfSun.j0, spec_DayOfSun.j0, impl_DayOfSun_l]

theorem FnExactDayOfSun : laws_FnExactDayOfSun.Pure := by
  intro a b ha hb
  obtain ⟨r, hr, _⟩ := SpecDayOfSun_ a b
  refine ⟨368, ?_⟩
  unfold laws_FnExactDayOfSun.f
  exact law2 (hr _ (by omega)) ((ImplDayOfSun_ _ _ _).trans (hr _ (by omega)))

end Go.Proofs.Ytncejfhmachapaa.Pure
