/- At all drawn years, days, longitudes, angles and numbers of divisions, the sun goes on from day to day, a day that is told has the longitude, and divisions are told with their errors. No condition. -/
import Derived.Test.YtncejfhmachapaaQFnCalendarsx5
import Derived.Test.YtncejfhmachapaaBase
namespace Go.Proofs.Ytncejfhmachapaa.Pure
open Go Go.RowKit Go.Proofs.Ytncejfhmachapaa.QFnCalendars Go.Proofs.YtncejfhmachapaaW.PrintWords Go.Proofs.YtncejfhmachapaaW.PrintLast Go.Proofs.YtncejfhmachapaaW.PrintMore Go.Proofs.Ytncejfhmachapaa.Base
set_option linter.unusedVariables false
set_option linter.unusedSimpArgs false

theorem In_ (a b c : Int) : spec_l00In.f a b c = some (decide (b ≤ a ∧ a ≤ c)) := by
  unfold spec_l00In.f
  by_cases h : a ≥ b
  · rw [if_pos h]; simp [show b ≤ a from h]
  · rw [if_neg h]; simp [show ¬ b ≤ a from h]

theorem Day_ (a b : Int) : spec_l20Day.f a b = some (if (1 ≤ a ∧ a ≤ 366) ∧ 0 ≤ b ∧ b ≤ a - 1 then 0 else 2) := by
  unfold spec_l20Day.f
  rw [In_]; simp only [Option.bind_some, decide_eq_true_eq]
  by_cases h : 1 ≤ a ∧ a ≤ 366
  · rw [if_pos h, w64 (n := a - 1) (by omega) (by omega), In_]; simp only [Option.bind_some, decide_eq_true_eq]
    by_cases h2 : 0 ≤ b ∧ b ≤ a - 1
    · rw [if_pos h2, if_pos ⟨h, h2⟩]
    · rw [if_neg h2, if_neg (by omega)]
  · rw [if_neg h, if_neg (by omega)]

theorem Sun_ (a b : Int) (h1 : 1 ≤ a) (h2 : a ≤ 366) (h3 : 0 ≤ b) (h4 : b ≤ 366) : spec_l20Sun.f a b = some (b * 1296000 / a) := by
  unfold spec_l20Sun.f
  rw [if_neg (by omega), w64 (n := b * 1296000) (by omega) (by omega), Int.tdiv_eq_ediv_of_nonneg (by omega)]
  have := ediv_bounds (b * 1296000) a 474336000 (by omega) (by omega) (by omega) (by omega)
  rw [w64 (by omega) (by omega)]

theorem SpecSunOn_ (a b : Int) : spec_SunOn.f a b = some (if (1 ≤ a ∧ a ≤ 366) ∧ 0 ≤ b ∧ b ≤ a - 1 then (b * 1296000 / a, 0) else (0, 2)) := by
  unfold spec_SunOn.f
  rw [Day_]; simp only [Option.bind_some]
  by_cases h : (1 ≤ a ∧ a ≤ 366) ∧ 0 ≤ b ∧ b ≤ a - 1
  · rw [if_pos h, if_pos h, if_pos rfl, Sun_ _ _ (by omega) (by omega) (by omega) (by omega)]; rfl
  · rw [if_neg h, if_neg h, if_neg (by omega)]

theorem within_ (a b c : Int) : impl_within.f a b c = some (decide (b ≤ a ∧ a ≤ c)) := by
  unfold impl_within.f
  by_cases h : a ≥ b
  · rw [if_pos h]; simp [show b ≤ a from h]
  · rw [if_neg h]; simp [show ¬ b ≤ a from h]

theorem areDays_ (a : Int) : impl_areDays.f a = some (decide (1 ≤ a ∧ a ≤ 366)) := by
  unfold impl_areDays.f; rw [within_]; rfl

theorem sunOn_ (a b : Int) (h1 : 1 ≤ a) (h2 : a ≤ 366) (h3 : 0 ≤ b) (h4 : b ≤ 366) : impl_sunOn.f a b = some (b * 1296000 / a) := by
  unfold impl_sunOn.f
  rw [if_neg (by omega), w64 (n := b * 1296000) (by omega) (by omega), Int.tdiv_eq_ediv_of_nonneg (by omega)]
  have := ediv_bounds (b * 1296000) a 474336000 (by omega) (by omega) (by omega) (by omega)
  rw [w64 (by omega) (by omega)]

theorem ImplSunOn_ (a b : Int) : impl_SunOn.f a b = some (if (1 ≤ a ∧ a ≤ 366) ∧ 0 ≤ b ∧ b ≤ a - 1 then (b * 1296000 / a, 0) else (0, 2)) := by
  unfold impl_SunOn.f
  rw [areDays_]; simp only [Option.bind_some, decide_eq_true_eq]
  by_cases h : 1 ≤ a ∧ a ≤ 366
  · rw [if_pos h, w64 (n := a - 1) (by omega) (by omega), within_]; simp only [Option.bind_some, decide_eq_true_eq]
    by_cases h2 : 0 ≤ b ∧ b ≤ a - 1
    · rw [if_pos h2, if_pos ⟨h, h2⟩, sunOn_ _ _ (by omega) (by omega) (by omega) (by omega)]; rfl
    · rw [if_neg h2, if_neg (by omega)]
  · rw [if_neg h, if_neg (by omega)]

theorem SpecSignOf_ (a b : Int) : spec_SignOf.f a b = some (if (1 ≤ a ∧ a ≤ 366) ∧ 0 ≤ b ∧ b ≤ a - 1 then (b * 1296000 / a / 108000, 0) else (0, 2)) := by
  unfold spec_SignOf.f
  rw [Day_]; simp only [Option.bind_some]
  by_cases h : (1 ≤ a ∧ a ≤ 366) ∧ 0 ≤ b ∧ b ≤ a - 1
  · rw [if_pos h, if_pos h, if_pos rfl, Sun_ _ _ (by omega) (by omega) (by omega) (by omega)]; simp only [Option.bind_some]
    have h0 : 0 ≤ b * 1296000 / a := Int.ediv_nonneg (by omega) (by omega)
    have := ediv_bounds (b * 1296000) a 474336000 (by omega) (by omega) (by omega) (by omega)
    rw [Int.tdiv_eq_ediv_of_nonneg h0, w64 (by omega) (by omega)]
  · rw [if_neg h, if_neg h, if_neg (by omega)]

theorem ImplSignOf_ (a b : Int) : impl_SignOf.f a b = some (if (1 ≤ a ∧ a ≤ 366) ∧ 0 ≤ b ∧ b ≤ a - 1 then (b * 1296000 / a / 108000, 0) else (0, 2)) := by
  unfold impl_SignOf.f
  rw [ImplSunOn_]; simp only [Option.bind_some]
  by_cases h : (1 ≤ a ∧ a ≤ 366) ∧ 0 ≤ b ∧ b ≤ a - 1
  · rw [if_pos h, if_pos h]; simp only
    have h0 : 0 ≤ b * 1296000 / a := Int.ediv_nonneg (by omega) (by omega)
    have := ediv_bounds (b * 1296000) a 474336000 (by omega) (by omega) (by omega) (by omega)
    rw [Int.tdiv_eq_ediv_of_nonneg h0, w64 (by omega) (by omega)]
  · rw [if_neg h, if_neg h]; simp only
    rw [show Int.tdiv 0 108000 = 0 from rfl, w64 (by omega) (by omega)]

theorem spec_DayOfSun_l (a b : Int) (h1 : 1 ≤ a) (h2 : a ≤ 366) : ∀ (d k : Nat) (i : Int), a - i = d → 0 ≤ i → d < k → ∃ r, spec_DayOfSun.l0 k a b i = some r ∧ (r.2 = 0 → i ≤ r.1 ∧ r.1 < a ∧ b ≤ r.1 * 1296000 / a ∧ ∀ j, i ≤ j → j < r.1 → j * 1296000 / a < b) := by
  intro d
  induction d with
  | zero =>
    intro k i hd h0 hk
    obtain ⟨k, rfl⟩ : ∃ m, k = m + 1 := ⟨k - 1, by omega⟩
    exact ⟨(0, 3), by simp only [spec_DayOfSun.l0]; rw [if_neg (by omega)], fun h => by simp at h⟩
  | succ d ih =>
    intro k i hd h0 hk
    obtain ⟨k, rfl⟩ : ∃ m, k = m + 1 := ⟨k - 1, by omega⟩
    simp only [spec_DayOfSun.l0]
    rw [if_pos (by omega), Sun_ _ _ h1 h2 h0 (by omega)]; simp only [Option.bind_some]
    by_cases c : i * 1296000 / a ≥ b
    · rw [if_pos c]; exact ⟨_, rfl, fun _ => ⟨by simp, by simp; omega, by simpa using c, fun j hj hj2 => by simp at hj2; omega⟩⟩
    · rw [if_neg c, w64 (by omega) (by omega)]
      obtain ⟨r, hr, h⟩ := ih k (i + 1) (by omega) (by omega) (by omega)
      refine ⟨r, hr, fun h3 => ?_⟩
      obtain ⟨g1, g2, g3, g4⟩ := h h3
      refine ⟨by omega, g2, g3, fun j hj hj2 => ?_⟩
      by_cases e : j = i
      · subst e; omega
      · exact g4 j (by omega) hj2

theorem SpecDayOfSun_ (a b : Int) : ∃ r, (∀ k, 368 ≤ k → spec_DayOfSun.f k a b = some r) ∧ (r.2 = 0 → 1 ≤ a ∧ a ≤ 366 ∧ 0 ≤ r.1 ∧ r.1 < a ∧ b ≤ r.1 * 1296000 / a ∧ ∀ j, 0 ≤ j → j < r.1 → j * 1296000 / a < b) := by
  by_cases h : 1 ≤ a ∧ a ≤ 366
  · by_cases h2 : 0 ≤ b ∧ b ≤ 1295999
    · obtain ⟨r, hr, hp⟩ := spec_DayOfSun_l a b h.1 h.2 a.toNat (a.toNat + 1) 0 (by omega) (by omega) (by omega)
      refine ⟨r, fun k hk => ?_, fun h3 => ⟨h.1, h.2, hp h3⟩⟩
      obtain ⟨k, rfl⟩ : ∃ m, k = m + 1 := ⟨k - 1, by omega⟩
      unfold spec_DayOfSun.f
      rw [In_, In_]; simp only [Option.bind_some, decide_eq_true_eq]
      rw [if_pos h]; simp only [spec_DayOfSun.j0]; rw [if_neg (by simp [h2])]
      exact at_rounds (g := fun k => spec_DayOfSun.l0 k a b 0) (fun k => (spec_DayOfSun.mono_l k).2 _ _ _) (by omega) hr
    · refine ⟨(0, 2), fun k hk => ?_, fun h3 => by simp at h3⟩
      obtain ⟨k, rfl⟩ : ∃ m, k = m + 1 := ⟨k - 1, by omega⟩
      unfold spec_DayOfSun.f
      rw [In_, In_]; simp only [Option.bind_some, decide_eq_true_eq]
      rw [if_pos h]; simp only [spec_DayOfSun.j0]; rw [if_pos (by simp; omega)]
  · refine ⟨(0, 2), fun k hk => ?_, fun h3 => by simp at h3⟩
    obtain ⟨k, rfl⟩ : ∃ m, k = m + 1 := ⟨k - 1, by omega⟩
    unfold spec_DayOfSun.f
    rw [In_]; simp only [Option.bind_some, decide_eq_true_eq]
    rw [if_neg h]; simp only [spec_DayOfSun.j0]; simp

theorem impl_DayOfSun_l : ∀ (k : Nat) (a b i : Int), impl_DayOfSun.l0 k a b a i = spec_DayOfSun.l0 k a b i
  | 0, _, _, _ => rfl
  | k + 1, a, b, i => by
    simp only [impl_DayOfSun.l0, spec_DayOfSun.l0]
    rw [show impl_sunOn.f = spec_l20Sun.f from rfl]
    simp only [impl_DayOfSun_l k]

theorem ImplDayOfSun_ (k : Nat) (a b : Int) : impl_DayOfSun.f k a b = spec_DayOfSun.f k a b := by
  unfold impl_DayOfSun.f spec_DayOfSun.f
  rw [areDays_, In_, within_, In_]; simp only [Option.bind_some]
  cases k with
  | zero => rfl
  | succ k => simp only [impl_DayOfSun.j0, spec_DayOfSun.j0, impl_DayOfSun_l]

theorem Many_ (a : Int) : spec_l20Many.f a = some (decide (1 ≤ a ∧ a ≤ 1000)) := by
  unfold spec_l20Many.f; rw [In_]; rfl

theorem Floor_ (a b : Int) (hb : 0 < b) (ha : -4611686018427387904 ≤ a) (ha2 : a ≤ 4611686018427387904) : spec_l00Floor.f a b = some (a / b) := by
  unfold spec_l00Floor.f
  rw [if_neg (by omega)]
  obtain ⟨h1, h2⟩ := ediv_bounds a b 4611686018427387904 hb ha ha2 (by omega)
  have e := floor_eq a b hb
  by_cases c : Int.tmod a b < 0
  · rw [if_pos c] at e ⊢; rw [w64 (n := Int.tdiv a b) (by omega) (by omega), w64 (by omega) (by omega), e]
  · rw [if_neg c] at e ⊢; rw [w64 (by omega) (by omega), e]

theorem Round_ (a b : Int) (hb : 0 < b) (hb2 : b ≤ 100000000000000000) (ha : -2000000000000000000 ≤ a) (ha2 : a ≤ 2000000000000000000) : spec_l00Round.f a b = some (near a b) := by
  unfold spec_l00Round.f
  rw [w64 (n := 2 * a) (by omega) (by omega), w64 (n := 2 * a + b) (by omega) (by omega), w64 (n := 2 * b) (by omega) (by omega), Floor_ _ _ (by omega) (by omega) (by omega)]
  rfl

theorem Division_ (n k : Int) (h1 : 1 ≤ n) (h2 : n ≤ 1000) (h3 : 0 ≤ k) (h4 : k ≤ 1000) : spec_l20Division.f n k = some (dv n k) := by
  unfold spec_l20Division.f dv
  rw [w64 (n := k * 1296000) (by omega) (by omega), Round_ _ _ (by omega) (by omega) (by omega) (by omega)]; rfl

def dvs (n i : Int) (d : Nat) : List Int := (List.range d).map fun (j : Nat) => dv n (i + (j : Int))
theorem dvs_succ (n i : Int) (d : Nat) : dvs n i (d + 1) = dv n i :: dvs n (i + 1) d := by
  unfold dvs
  rw [List.range_succ_eq_map, List.map_cons, List.map_map]
  congr 1
  · simp
  · apply List.map_congr_left; intro j _; simp only [Function.comp]; congr 1; omega
theorem spec_Divs_l (n : Int) (h1 : 1 ≤ n) (h2 : n ≤ 1000) : ∀ (d k : Nat) (i : Int) (l : List Int), n - i = d → 0 ≤ i → (l.length : Int) ≤ i → d < k → spec_DivisionsOf.l0 k n l i = some (l ++ dvs n i d, 0) := by
  intro d
  induction d with
  | zero =>
    intro k i l hd h0 hl hk
    obtain ⟨k, rfl⟩ : ∃ m, k = m + 1 := ⟨k - 1, by omega⟩
    simp only [spec_DivisionsOf.l0]; rw [if_neg (by omega)]; simp [dvs]
  | succ d ih =>
    intro k i l hd h0 hl hk
    obtain ⟨k, rfl⟩ : ∃ m, k = m + 1 := ⟨k - 1, by omega⟩
    simp only [spec_DivisionsOf.l0]
    rw [if_pos (by omega), Division_ _ _ h1 h2 h0 (by omega)]; simp only [Option.bind_some]
    rw [if_pos (by omega), w64 (by omega) (by omega), ih k (i + 1) _ (by omega) (by omega) (by simp; omega) (by omega), dvs_succ]
    simp
theorem SpecDivs_ (n : Int) : ∃ l c, (∀ k, 1002 ≤ k → spec_DivisionsOf.f k n = some (l, c)) ∧ l.length ≤ 1000 ∧ (c = 0 → 1 ≤ n ∧ n ≤ 1000 ∧ l = dvs n 0 n.toNat) := by
  by_cases h : 1 ≤ n ∧ n ≤ 1000
  · refine ⟨dvs n 0 n.toNat, 0, fun k hk => ?_, by simp [dvs]; omega, fun _ => ⟨h.1, h.2, rfl⟩⟩
    unfold spec_DivisionsOf.f
    rw [Many_]; simp only [Option.bind_some, decide_eq_true_eq]
    rw [if_pos h, spec_Divs_l n h.1 h.2 n.toNat k 0 _ (by omega) (by omega) (by simp) (by omega)]; simp
  · refine ⟨[], 2, fun k hk => ?_, by simp, fun h => by simp at h⟩
    unfold spec_DivisionsOf.f
    rw [Many_]; simp only [Option.bind_some, decide_eq_true_eq]
    rw [if_neg h]

theorem isRing_ (a : Int) : impl_isRing.f a = some (decide (1 ≤ a ∧ a ≤ 1000)) := by
  unfold impl_isRing.f; rw [within_]; rfl

theorem impl_Divs_l : ∀ (k : Nat) (n : Int) (l : List Int) (i : Int), impl_DivisionsOf.l0 k n l n i = spec_DivisionsOf.l0 k n l i
  | 0, _, _, _ => rfl
  | k + 1, n, l, i => by
    simp only [impl_DivisionsOf.l0, spec_DivisionsOf.l0, show impl_division.f = spec_l20Division.f from rfl, impl_Divs_l k]
theorem ImplDivs_ (k : Nat) (n : Int) : impl_DivisionsOf.f k n = spec_DivisionsOf.f k n := by
  unfold impl_DivisionsOf.f spec_DivisionsOf.f
  rw [isRing_, Many_]; simp only [impl_Divs_l]

theorem Angle_ (a : Int) : spec_l02Angle.f a = some (decide (-1000000000 ≤ a ∧ a ≤ 1000000000)) := by
  unfold spec_l02Angle.f; rw [In_]; rfl

theorem Wrap_ (a : Int) (ha : -4611686018427387904 ≤ a) (ha2 : a ≤ 4611686018427387904) : spec_l02Wrap.f a = some (wr a) := by
  unfold spec_l02Wrap.f wr
  rw [w64 (n := a + 648000) (by omega) (by omega), tmod_eq _ _ (by omega)]
  by_cases h : 0 ≤ a + 648000
  · rw [if_pos h, if_neg (by omega), w64 (by omega) (by omega)]
  · rw [if_neg h]
    by_cases h2 : -(-(a + 648000) % 1296000) < 0
    · rw [if_pos h2, w64 (n := -(-(a + 648000) % 1296000) + 1296000) (by omega) (by omega), w64 (by omega) (by omega)]; congr 1; omega
    · rw [if_neg h2, w64 (by omega) (by omega)]; congr 1; omega

theorem Size_ (a : Int) (ha : -9223372036854775807 ≤ a) (ha2 : a ≤ 9223372036854775807) : spec_l00Size.f a = some (ab a) := by
  unfold spec_l00Size.f ab
  by_cases h : a < 0
  · rw [if_pos h, if_pos h, w64 (by omega) (by omega)]
  · rw [if_neg h, if_neg h]

theorem spec_Near_l (n a : Int) (h1 : 1 ≤ n) (h2 : n ≤ 1000) (h3 : -1000000000 ≤ a) (h4 : a ≤ 1000000000) : ∀ (d k : Nat) (i b l : Int), n - i = d → 0 ≤ i → d < k → ∃ r, spec_NearestDivision.l0 k n a b l i = some r := by
  intro d
  induction d with
  | zero =>
    intro k i b l hd h0 hk
    obtain ⟨k, rfl⟩ : ∃ m, k = m + 1 := ⟨k - 1, by omega⟩
    exact ⟨(b, 0), by simp only [spec_NearestDivision.l0]; rw [if_neg (by omega)]⟩
  | succ d ih =>
    intro k i b l hd h0 hk
    obtain ⟨k, rfl⟩ : ∃ m, k = m + 1 := ⟨k - 1, by omega⟩
    obtain ⟨g1, g2⟩ := dv_bounds n i h1 h2 h0 (by omega)
    have g3 := wr_range (a - dv n i)
    simp only [spec_NearestDivision.l0]
    rw [if_pos (by omega), Division_ _ _ h1 h2 h0 (by omega)]; simp only [Option.bind_some]
    rw [w64 (n := a - dv n i) (by omega) (by omega), Wrap_ _ (by omega) (by omega)]; simp only [Option.bind_some]
    rw [Size_ _ (by omega) (by omega)]; simp only [Option.bind_some]
    rw [w64 (by omega) (by omega)]
    split
    · exact ih k _ _ _ (by omega) (by omega) (by omega)
    · split
      · exact ih k _ _ _ (by omega) (by omega) (by omega)
      · exact ih k _ _ _ (by omega) (by omega) (by omega)
theorem SpecNear_ (n a : Int) : ∃ r, ∀ k, 1003 ≤ k → spec_NearestDivision.f k n a = some r := by
  by_cases h : 1 ≤ n ∧ n ≤ 1000
  · by_cases h2 : -1000000000 ≤ a ∧ a ≤ 1000000000
    · obtain ⟨r, hr⟩ := spec_Near_l n a h.1 h.2 h2.1 h2.2 n.toNat (n.toNat + 1) 0 0 (-1) (by omega) (by omega) (by omega)
      refine ⟨r, fun k hk => ?_⟩
      obtain ⟨k, rfl⟩ : ∃ m, k = m + 1 := ⟨k - 1, by omega⟩
      unfold spec_NearestDivision.f
      rw [Many_, Angle_]; simp only [Option.bind_some, decide_eq_true_eq]
      rw [if_pos h]; simp only [spec_NearestDivision.j0]; rw [if_neg (by simp [h2])]
      exact at_rounds (g := fun k => spec_NearestDivision.l0 k n a 0 (-1) 0) (fun k => (spec_NearestDivision.mono_l k).2 _ _ _ _ _) (by omega) hr
    · refine ⟨(0, 2), fun k hk => ?_⟩
      obtain ⟨k, rfl⟩ : ∃ m, k = m + 1 := ⟨k - 1, by omega⟩
      unfold spec_NearestDivision.f
      rw [Many_, Angle_]; simp only [Option.bind_some, decide_eq_true_eq]
      rw [if_pos h]; simp only [spec_NearestDivision.j0]; rw [if_pos (by simp; omega)]
  · refine ⟨(0, 2), fun k hk => ?_⟩
    obtain ⟨k, rfl⟩ : ∃ m, k = m + 1 := ⟨k - 1, by omega⟩
    unfold spec_NearestDivision.f
    rw [Many_]; simp only [Option.bind_some, decide_eq_true_eq]
    rw [if_neg h]; simp only [spec_NearestDivision.j0]; simp

theorem isAngle_ (a : Int) : impl_isAngle.f a = some (decide (-1000000000 ≤ a ∧ a ≤ 1000000000)) := by
  unfold impl_isAngle.f; rw [within_]; rfl

theorem floorDiv_ (a b : Int) (hb : 0 < b) (ha : -4611686018427387904 ≤ a) (ha2 : a ≤ 4611686018427387904) : impl_floorDiv.f a b = some (a / b) := by
  unfold impl_floorDiv.f
  rw [if_neg (by omega)]
  obtain ⟨h1, h2⟩ := ediv_bounds a b 4611686018427387904 hb ha ha2 (by omega)
  have e := floor_eq a b hb
  by_cases c : Int.tmod a b < 0
  · rw [if_pos c] at e ⊢; rw [w64 (n := Int.tdiv a b) (by omega) (by omega), w64 (by omega) (by omega), e]
  · rw [if_neg c] at e ⊢; rw [w64 (by omega) (by omega), e]

theorem nearest_ (a b : Int) (hb : 0 < b) (hb2 : b ≤ 100000000000000000) (ha : -2000000000000000000 ≤ a) (ha2 : a ≤ 2000000000000000000) : impl_nearest.f a b = some (near a b) := by
  unfold impl_nearest.f
  rw [w64 (n := 2 * a) (by omega) (by omega), w64 (n := 2 * a + b) (by omega) (by omega), w64 (n := 2 * b) (by omega) (by omega), floorDiv_ _ _ (by omega) (by omega) (by omega)]
  rfl

theorem division_ (n k : Int) (h1 : 1 ≤ n) (h2 : n ≤ 1000) (h3 : 0 ≤ k) (h4 : k ≤ 1000) : impl_division.f n k = some (dv n k) := by
  unfold impl_division.f dv
  rw [w64 (n := k * 1296000) (by omega) (by omega), nearest_ _ _ (by omega) (by omega) (by omega) (by omega)]; rfl

theorem around_ (a : Int) (ha : -9223372036854775808 ≤ a) (ha2 : a ≤ 9223372036854775807) : impl_around.f a = some (a % 1296000) := by
  unfold impl_around.f
  have h1 : Int.tmod a 1296000 = if 0 ≤ a then a % 1296000 else -(-a % 1296000) := tmod_eq _ _ (by omega)
  have h2 : -1296000 < Int.tmod a 1296000 ∧ Int.tmod a 1296000 < 1296000 := by rw [h1]; split <;> omega
  rw [w64 (n := Int.tmod a 1296000 + 1296000) (by omega) (by omega), tmod_eq _ _ (by omega), if_pos (by omega), h1]
  split
  · congr 1; omega
  · congr 1; omega

theorem wrap_ (a : Int) (ha : -4611686018427387904 ≤ a) (ha2 : a ≤ 4611686018427387904) : impl_wrap.f a = some (wr a) := by
  unfold impl_wrap.f wr
  rw [w64 (n := a + 648000) (by omega) (by omega), around_ _ (by omega) (by omega)]
  simp only [Option.bind_some]
  rw [w64 (by omega) (by omega)]

theorem absolute_ (a : Int) (ha : -9223372036854775807 ≤ a) (ha2 : a ≤ 9223372036854775807) : impl_absolute.f a = some (ab a) := by
  unfold impl_absolute.f ab mx
  rw [w64 (n := -a) (by omega) (by omega)]
  by_cases h : a < 0
  · rw [if_pos h, if_pos (by omega)]
  · rw [if_neg h, if_neg (by omega)]

theorem impl_Near_l (n a : Int) (h1 : 1 ≤ n) (h2 : n ≤ 1000) (h3 : -1000000000 ≤ a) (h4 : a ≤ 1000000000) : ∀ (k : Nat) (i b l : Int), 0 ≤ i → impl_NearestDivision.l0 k n a b l n i = spec_NearestDivision.l0 k n a b l i
  | 0, _, _, _, _ => rfl
  | k + 1, i, b, l, hi => by
    simp only [impl_NearestDivision.l0, spec_NearestDivision.l0]
    by_cases c : i < n
    · obtain ⟨g1, g2⟩ := dv_bounds n i h1 h2 hi (by omega)
      have g3 := wr_range (a - dv n i)
      rw [if_pos c, if_pos c, Division_ _ _ h1 h2 hi (by omega), division_ _ _ h1 h2 hi (by omega)]; simp only [Option.bind_some]
      rw [w64 (n := a - dv n i) (by omega) (by omega), Wrap_ _ (by omega) (by omega), wrap_ _ (by omega) (by omega)]; simp only [Option.bind_some]
      rw [Size_ _ (by omega) (by omega), absolute_ _ (by omega) (by omega)]; simp only [Option.bind_some]
      rw [w64 (n := i + 1) (by omega) (by omega), impl_Near_l n a h1 h2 h3 h4 k (i + 1) _ _ (by omega), impl_Near_l n a h1 h2 h3 h4 k (i + 1) _ _ (by omega)]
    · rw [if_neg c, if_neg c]
theorem ImplNear_ (k : Nat) (n a : Int) : impl_NearestDivision.f k n a = spec_NearestDivision.f k n a := by
  unfold impl_NearestDivision.f spec_NearestDivision.f
  rw [isRing_, Many_, isAngle_, Angle_]; simp only [Option.bind_some, decide_eq_true_eq]
  cases k with
  | zero => rfl
  | succ k =>
    simp only [impl_NearestDivision.j0, spec_NearestDivision.j0]
    by_cases h : 1 ≤ n ∧ n ≤ 1000
    · by_cases h2 : -1000000000 ≤ a ∧ a ≤ 1000000000
      · rw [impl_Near_l n a h.1 h.2 h2.1 h2.2 k 0 _ _ (by omega)]
      · rw [if_pos h, if_pos h, if_pos (by simp; omega), if_pos (by simp; omega)]
    · rw [if_neg h, if_neg h]; simp

theorem Max_ (a b : Int) : spec_l00Max.f a b = some (mx a b) := by
  unfold spec_l00Max.f mx
  by_cases h : a > b
  · rw [if_pos h, if_neg (by omega)]
  · rw [if_neg h]; by_cases h2 : a < b
    · rw [if_pos h2]
    · rw [if_neg h2, show a = b by omega]

def rg (n k : Int) : Int := ab (n * dv n k - k * 1296000)
theorem rg_bounds (n k : Int) (h1 : 1 ≤ n) (h2 : n ≤ 1000) (h3 : 0 ≤ k) (h4 : k ≤ n) : -2592000000 ≤ n * dv n k ∧ n * dv n k ≤ 2592000000 := by
  obtain ⟨g1, g2⟩ := dv_bounds n k h1 h2 h3 h4
  constructor
  · have := Int.mul_le_mul_of_nonneg_left g1 (by omega : (0 : Int) ≤ n); omega
  · have := Int.mul_le_mul_of_nonneg_left g2 (by omega : (0 : Int) ≤ n); omega
theorem spec_Ring_l (n : Int) (h1 : 1 ≤ n) (h2 : n ≤ 1000) : ∀ (d k : Nat) (i w : Int), n - i = d → 0 ≤ i → 0 ≤ w → w ≤ 3888000000 → d < k → ∃ r, spec_RingError.l0 k n w i = some (r, 0) ∧ w ≤ r ∧ (∀ j, i ≤ j → j < n → rg n j ≤ r) ∧ (r = w ∨ ∃ j, i ≤ j ∧ j < n ∧ r = rg n j) := by
  intro d
  induction d with
  | zero =>
    intro k i w hd h0 hw hw2 hk
    obtain ⟨k, rfl⟩ : ∃ m, k = m + 1 := ⟨k - 1, by omega⟩
    exact ⟨w, by simp only [spec_RingError.l0]; rw [if_neg (by omega)], by omega, fun j _ _ => by omega, .inl rfl⟩
  | succ d ih =>
    intro k i w hd h0 hw hw2 hk
    obtain ⟨k, rfl⟩ : ∃ m, k = m + 1 := ⟨k - 1, by omega⟩
    obtain ⟨g1, g2⟩ := rg_bounds n i h1 h2 h0 (by omega)
    simp only [spec_RingError.l0]
    rw [if_pos (by omega), Division_ _ _ h1 h2 h0 (by omega)]; simp only [Option.bind_some]
    rw [w64 (n := n * dv n i) (by omega) (by omega), w64 (n := i * 1296000) (by omega) (by omega), w64 (n := n * dv n i - i * 1296000) (by omega) (by omega), Size_ _ (by omega) (by omega)]; simp only [Option.bind_some]
    rw [Max_]; simp only [Option.bind_some]
    have hb : rg n i ≤ 3888000000 := by unfold rg ab; split <;> omega
    have hn := ab_nonneg (n * dv n i - i * 1296000)
    have hm : mx w (rg n i) = w ∧ rg n i ≤ w ∨ mx w (rg n i) = rg n i ∧ w ≤ rg n i := by unfold mx; split <;> omega
    change 0 ≤ rg n i at hn
    rw [w64 (by omega) (by omega)]
    obtain ⟨r, hr, ha, hb2, hc⟩ := ih k (i + 1) (mx w (rg n i)) (by omega) (by omega) (by omega) (by omega) (by omega)
    refine ⟨r, hr, by omega, fun j hj hj2 => ?_, ?_⟩
    · by_cases e : j = i
      · subst e; omega
      · exact hb2 j (by omega) hj2
    · rcases hc with hc | ⟨j, hj, hj2, hc⟩
      · rcases hm with ⟨hm, _⟩ | ⟨hm, _⟩
        · left; omega
        · right; exact ⟨i, by omega, by omega, by omega⟩
      · right; exact ⟨j, by omega, hj2, hc⟩
theorem SpecRing_ (n : Int) : ∃ r, (∀ k, 1002 ≤ k → spec_RingError.f k n = some r) ∧ (1 ≤ n → n ≤ 1000 → r.2 = 0 ∧ 0 ≤ r.1 ∧ (∀ j, 0 ≤ j → j < n → rg n j ≤ r.1) ∧ (r.1 = 0 ∨ ∃ j, 0 ≤ j ∧ j < n ∧ r.1 = rg n j)) := by
  by_cases h : 1 ≤ n ∧ n ≤ 1000
  · obtain ⟨r, hr, g1, g2, g3⟩ := spec_Ring_l n h.1 h.2 n.toNat (n.toNat + 1) 0 0 (by omega) (by omega) (by omega) (by omega) (by omega)
    refine ⟨(r, 0), fun k hk => ?_, fun _ _ => ⟨rfl, g1, g2, g3⟩⟩
    unfold spec_RingError.f
    rw [Many_]; simp only [Option.bind_some, decide_eq_true_eq]
    rw [if_pos h]
    exact at_rounds (g := fun k => spec_RingError.l0 k n 0 0) (fun k => spec_RingError.mono_l k _ _ _) (by omega) hr
  · refine ⟨(0, 2), fun k hk => ?_, fun _ _ => by omega⟩
    unfold spec_RingError.f
    rw [Many_]; simp only [Option.bind_some, decide_eq_true_eq]
    rw [if_neg h]

theorem abs_eq (a : Int) : impl_absolute.f (wrap64 a) = spec_l00Size.f (wrap64 a) := by
  unfold impl_absolute.f spec_l00Size.f mx
  generalize hx : wrap64 a = x
  have h : -9223372036854775808 ≤ x ∧ x ≤ 9223372036854775807 := by rw [← hx]; unfold wrap64; omega
  by_cases c : x < 0
  · rw [if_pos c]
    by_cases e : x = -9223372036854775808
    · have e2 : wrap64 (-x) = x := by subst e; unfold wrap64; omega
      rw [e2, if_neg (by omega)]
    · rw [w64 (n := -x) (by omega) (by omega), if_pos (by omega)]
  · rw [if_neg c, w64 (n := -x) (by omega) (by omega), if_neg (by omega)]
theorem div_eq : impl_division.f = spec_l20Division.f := rfl
theorem impl_Ring_l : ∀ (k : Nat) (n w i : Int), impl_RingError.l0 k n w n i = spec_RingError.l0 k n w i
  | 0, _, _, _ => rfl
  | k + 1, n, w, i => by
    simp only [impl_RingError.l0, spec_RingError.l0, div_eq, abs_eq, Max_, Option.bind_some, impl_Ring_l k]
theorem ImplRing_ (k : Nat) (n : Int) : impl_RingError.f k n = spec_RingError.f k n := by
  unfold impl_RingError.f spec_RingError.f
  rw [isRing_, Many_]; simp only [impl_Ring_l]

theorem rd_mem (l : List Int) (i : Int) (h0 : 0 ≤ i) (h : i < l.length) : rd l i ∈ l := by
  unfold rd
  rw [List.getD_eq_getElem?_getD, List.getElem?_eq_getElem (by omega)]
  exact List.getElem_mem _
theorem u64_range (n : Int) : 0 ≤ IntKind.u64.wrap n ∧ IntKind.u64.wrap n < 18446744073709551616 := by
  have e : IntKind.u64.wrap n = n % 18446744073709551616 := by simp [IntKind.wrap, IntKind.bits, IntKind.signed]
  rw [e]; omega
theorem low_byte (n : Int) : 0 ≤ Go.bits .and .u64 (IntKind.u64.wrap n / 1099511627776) 255 ∧ Go.bits .and .u64 (IntKind.u64.wrap n / 1099511627776) 255 ≤ 255 := by
  have h := u64_range n
  have e : Go.bits .and .u64 (IntKind.u64.wrap n / 1099511627776) 255 = (IntKind.u64.wrap n / 1099511627776) % 256 :=
    Go.bits_mask .u64 64 (by decide) (fun m g0 g1 => by
      have e : IntKind.u64.wrap m = m % 18446744073709551616 := by simp [IntKind.wrap, IntKind.bits, IntKind.signed]
      have : (2 : Int) ^ 64 = 18446744073709551616 := by decide
      rw [e]; omega) 8 (by decide) _ (by omega) (by have : (2 : Int) ^ 64 = 18446744073709551616 := by decide
                                                    omega)
  rw [e]; omega
theorem low_byte_w (n : Int) : 0 ≤ wrap64 (Go.bits .and .u64 (IntKind.u64.wrap n / 1099511627776) 255) ∧ wrap64 (Go.bits .and .u64 (IntKind.u64.wrap n / 1099511627776) 255) ≤ 255 := by
  have h := low_byte n
  rw [w64 (by omega) (by omega)]; exact h
theorem Next_ (l : List Int) (hl : ∀ x ∈ l, 0 ≤ x ∧ x ≤ 255) (a s : Int) (h0 : 0 ≤ a) (h1 : a ≤ 1152921504606846976) : ∃ v s', spec_l00Src_next.f l a s = some (v, a + 1, s') ∧ 0 ≤ v ∧ v ≤ 255 := by
  unfold spec_l00Src_next.f
  have hw : wrap64 (a + 1) = a + 1 := w64 (by omega) (by omega)
  by_cases c : a < (l.length : Int)
  · have hb := hl _ (rd_mem l a h0 c)
    rw [if_pos c, if_pos h0, hw, if_pos (by omega)]
    exact ⟨_, _, rfl, by rw [w64 (by omega) (by omega)]; omega, by rw [w64 (by omega) (by omega)]; omega⟩
  · rw [if_neg c, hw, if_neg (by omega)]
    exact ⟨_, _, rfl, (low_byte_w _).1, (low_byte_w _).2⟩

theorem Pick_ (l : List Int) (hl : ∀ x ∈ l, 0 ≤ x ∧ x ≤ 255) (a s n : Int) (h0 : 0 ≤ a) (h1 : a ≤ 1000000000000) : ∃ v a' s', spec_l00Src_pick.f l a s n = some (v, a', s') ∧ a ≤ a' ∧ a' ≤ a + 2 ∧ 0 ≤ v ∧ v ≤ 65535 ∧ (1 ≤ n → v < n) ∧ (n ≤ 1 → v = 0) := by
  unfold spec_l00Src_pick.f
  by_cases c : n ≤ 1
  · rw [if_pos c]; exact ⟨0, a, s, rfl, by omega, by omega, by omega, by omega, by omega, by omega⟩
  · obtain ⟨v, s', hv, v0, v1⟩ := Next_ l hl a s h0 (by omega)
    rw [if_neg c, hv]; simp only [Option.bind_some]
    by_cases d : n > 200
    · obtain ⟨u, s2, hu, u0, u1⟩ := Next_ l hl (a + 1) s' (by omega) (by omega)
      rw [if_pos d, hu]; simp only [Option.bind_some]
      rw [if_neg (by omega), w64 (n := v * 256) (by omega) (by omega), w64 (n := v * 256 + u) (by omega) (by omega), tmod_eq _ _ (by omega), if_pos (by omega)]
      have g0 := Int.emod_nonneg (v * 256 + u) (b := n) (by omega)
      have g1 := Int.emod_lt_of_pos (v * 256 + u) (b := n) (by omega)
      have g2 := Int.mul_ediv_add_emod (v * 256 + u) n
      have g3 := Int.mul_nonneg (show 0 ≤ n by omega) (Int.ediv_nonneg (show 0 ≤ v * 256 + u by omega) (show 0 ≤ n by omega))
      exact ⟨_, _, _, rfl, by omega, by omega, g0, by omega, fun _ => g1, fun _ => by omega⟩
    · rw [if_neg d, if_neg (by omega), tmod_eq _ _ (by omega), if_pos (by omega)]
      have g0 := Int.emod_nonneg v (b := n) (by omega)
      have g1 := Int.emod_lt_of_pos v (b := n) (by omega)
      exact ⟨_, _, _, rfl, by omega, by omega, g0, by omega, fun _ => g1, fun _ => by omega⟩

theorem One_ (l : List Int) (hl : ∀ x ∈ l, 0 ≤ x ∧ x ≤ 255) (a s n : Int) (h0 : 0 ≤ a) (h1 : a ≤ 1000000000000) : ∃ b a' s', spec_l00Src_one.f l a s n = some (b, a', s') ∧ a ≤ a' ∧ a' ≤ a + 2 := by
  unfold spec_l00Src_one.f
  obtain ⟨v, a', s', h, g1, g2, _⟩ := Pick_ l hl a s n h0 h1
  rw [h]; exact ⟨_, _, _, rfl, g1, g2⟩

theorem Among_ (l : List Int) (hl : ∀ x ∈ l, 0 ≤ x ∧ x ≤ 255) (a s : Int) (xs : List Int) (hx : 0 < xs.length) (h0 : 0 ≤ a) (h1 : a ≤ 1000000000000) : ∃ v a' s', spec_l00Src_among.f l a s xs = some (v, a', s') ∧ a ≤ a' ∧ a' ≤ a + 2 ∧ v ∈ xs := by
  unfold spec_l00Src_among.f
  obtain ⟨v, a', s', h, g1, g2, g3, g4, g5, g6⟩ := Pick_ l hl a s xs.length h0 h1
  have := g5 (by omega)
  rw [h]; simp only [Option.bind_some]
  rw [if_pos g3, if_pos this]
  exact ⟨_, _, _, rfl, g1, g2, rd_mem _ _ g3 this⟩

theorem DrawYear_ (l : List Int) (hl : ∀ x ∈ l, 0 ≤ x ∧ x ≤ 255) (k : Nat) (hk : 1 ≤ k) : ∃ v u, spec_l20Year.f k l = some (v, u) := by
  obtain ⟨k, rfl⟩ : ∃ m, k = m + 1 := ⟨k - 1, by omega⟩
  unfold spec_l20Year.f spec_l00From.f
  simp only [Option.bind_some]
  obtain ⟨v, a1, s1, hv, v0, v1, _⟩ := Among_ l hl 0 0 [365, 366, 360, 12, 1] (by simp) (by omega) (by omega)
  rw [hv]; simp only [Option.bind_some]
  obtain ⟨b, a2, s2, hb, b0, b1⟩ := One_ l hl a1 s1 8 (by omega) (by omega)
  rw [hb]; simp only [Option.bind_some]
  obtain ⟨u, a3, s3, hu, u0, u1, _⟩ := Among_ l hl a2 s2 [(-1), 0, 1, 366, 367] (by simp) (by omega) (by omega)
  rw [hu]; simp only [Option.bind_some]
  have key : ∀ d a s, 0 ≤ a → a ≤ 1000 → ∃ v u, spec_l20Year.j0 (k + 1) d l a s = some (v, u) := by
    intro d a s h0 h1
    simp only [spec_l20Year.j0]
    obtain ⟨b, a2, s2, hb, b0, b1⟩ := One_ l hl a s 8 (by omega) (by omega)
    rw [hb]; simp only [Option.bind_some]
    obtain ⟨u, a3, s3, hu, u0, u1, _⟩ := Among_ l hl a2 s2 [(-1), 0, wrap64 (d - 1), d] (by simp) (by omega) (by omega)
    rw [hu, Max_]; simp only [Option.bind_some]
    obtain ⟨t, a4, s4, ht, t0, t1, _⟩ := Pick_ l hl a2 s2 (mx 1 d) (by omega) (by omega)
    rw [ht]
    cases b <;> exact ⟨_, _, rfl⟩
  cases b
  · simp only [Bool.false_eq_true, if_false]; exact key _ _ _ (by omega) (by omega)
  · simp only [if_true]; exact key _ _ _ (by omega) (by omega)

theorem DrawSunOn_ (l : List Int) (hl : ∀ x ∈ l, 0 ≤ x ∧ x ≤ 255) (k : Nat) (hk : 1 ≤ k) : ∃ v u, spec_DrawSunOn.f k l = some (v, u) := by
  unfold spec_DrawSunOn.f
  obtain ⟨v, u, h⟩ := DrawYear_ l hl k hk
  rw [h]; exact ⟨_, _, rfl⟩
theorem DrawDayOfSun_ (l : List Int) (hl : ∀ x ∈ l, 0 ≤ x ∧ x ≤ 255) (k : Nat) (hk : 1 ≤ k) : ∃ v u, spec_DrawDayOfSun.f k l = some (v, u) := by
  unfold spec_DrawDayOfSun.f spec_l00From.f
  obtain ⟨v, u, h⟩ := DrawYear_ l hl k hk
  rw [h]; simp only [Option.bind_some]
  obtain ⟨b, a2, s2, hb, b0, b1⟩ := One_ l hl 0 0 6 (by omega) (by omega)
  rw [hb]; simp only [Option.bind_some]
  obtain ⟨u, a3, s3, hu, u0, u1, _⟩ := Among_ l hl a2 s2 [(-1), 0, 1295999, 1296000] (by simp) (by omega) (by omega)
  obtain ⟨t, a4, s4, ht, t0, t1, _⟩ := Pick_ l hl a2 s2 360 (by omega) (by omega)
  rw [hu, ht]
  cases b <;> exact ⟨_, _, rfl⟩

theorem DrawMany_ (l : List Int) (hl : ∀ x ∈ l, 0 ≤ x ∧ x ≤ 255) (a s : Int) (h0 : 0 ≤ a) (h1 : a ≤ 100000000000) : ∃ v a' s', spec_l20DrawMany.f l a s = some (v, a', s') ∧ a ≤ a' ∧ a' ≤ a + 4 := by
  unfold spec_l20DrawMany.f
  obtain ⟨b, a1, s1, hb, b0, b1⟩ := One_ l hl a s 8 h0 (by omega)
  rw [hb]; simp only [Option.bind_some]
  obtain ⟨v, a2, s2, hv, v0, v1, _⟩ := Among_ l hl a1 s1 [(-1), 0, 1, 1000, 1001] (by simp) (by omega) (by omega)
  obtain ⟨u, a3, s3, hu, u0, u1, _⟩ := Among_ l hl a1 s1 [4, 7, 12, 24, 72, 360, 365, 999] (by simp) (by omega) (by omega)
  rw [hv, hu]
  cases b
  · exact ⟨_, _, _, rfl, by simp only; omega, by simp only; omega⟩
  · exact ⟨_, _, _, rfl, by simp only; omega, by simp only; omega⟩

theorem DrawAngle_ (l : List Int) (hl : ∀ x ∈ l, 0 ≤ x ∧ x ≤ 255) (a s : Int) (h0 : 0 ≤ a) (h1 : a ≤ 100000000000) : ∃ v a' s', spec_l02DrawAngle.f l a s = some (v, a', s') := by
  unfold spec_l02DrawAngle.f
  obtain ⟨b, a1, s1, hb, b0, b1⟩ := One_ l hl a s 10 h0 (by omega)
  rw [hb]; simp only [Option.bind_some]
  obtain ⟨v, a2, s2, hv, v0, v1, _⟩ := Among_ l hl a1 s1 [(-1000000001), (-1000000000), (-1296000), 0, 1296000, 1000000000, 1000000001, (-9223372036854775808)] (by simp) (by omega) (by omega)
  obtain ⟨u, a3, s3, hu, u0, u1, _⟩ := Pick_ l hl a1 s1 250 (by omega) (by omega)
  obtain ⟨t, a4, s4, ht, t0, t1, _⟩ := Pick_ l hl a3 s3 100 (by omega) (by omega)
  rw [hv, hu]; simp only [Option.bind_some]; rw [ht]
  cases b <;> exact ⟨_, _, _, rfl⟩

theorem DrawDivisionsOf_ (l : List Int) (hl : ∀ x ∈ l, 0 ≤ x ∧ x ≤ 255) : ∃ v, spec_DrawDivisionsOf.f l = some v := by
  unfold spec_DrawDivisionsOf.f spec_l00From.f
  obtain ⟨v, a', s', h, _⟩ := DrawMany_ l hl 0 0 (by omega) (by omega)
  simp only [Option.bind_some]; rw [h]; exact ⟨_, rfl⟩
theorem DrawNear_ (l : List Int) (hl : ∀ x ∈ l, 0 ≤ x ∧ x ≤ 255) : ∃ v u, spec_DrawNearestDivision.f l = some (v, u) := by
  unfold spec_DrawNearestDivision.f spec_l00From.f
  obtain ⟨v, a', s', h, h0, h1⟩ := DrawMany_ l hl 0 0 (by omega) (by omega)
  obtain ⟨u, a2, s2, g⟩ := DrawAngle_ l hl a' s' (by omega) (by omega)
  simp only [Option.bind_some]; rw [h]; simp only [Option.bind_some]; rw [g]; exact ⟨_, _, rfl⟩

theorem f6ints_l (l : List Int) (hl : l.length ≤ 1152921504606846976) : ∀ (d k : Nat) (i : Int), (l.length : Int) - i = d → 0 ≤ i → d < k → laws_f6ints.l0 k l l i = some true := by
  intro d
  induction d with
  | zero =>
    intro k i hd h0 hk
    obtain ⟨k, rfl⟩ : ∃ m, k = m + 1 := ⟨k - 1, by omega⟩
    simp only [laws_f6ints.l0]; rw [if_neg (by omega)]
  | succ d ih =>
    intro k i hd h0 hk
    obtain ⟨k, rfl⟩ : ∃ m, k = m + 1 := ⟨k - 1, by omega⟩
    simp only [laws_f6ints.l0]
    rw [if_pos (by omega), if_pos h0, if_pos (by omega), if_pos trivial, w64 (by omega) (by omega)]
    exact ih k (i + 1) (by omega) (by omega) (by omega)
theorem f6ints_ (l : List Int) (hl : l.length ≤ 1152921504606846976) (k : Nat) (hk : l.length < k) : laws_f6ints.f k l l = some true := by
  unfold laws_f6ints.f
  rw [if_pos rfl]; exact f6ints_l l hl l.length k 0 (by omega) (by omega) hk

theorem f6abs_ (a : Int) (ha : -9223372036854775807 ≤ a) (ha2 : a ≤ 9223372036854775807) : laws_f6abs.f a = some (ab a) := by
  unfold laws_f6abs.f ab
  by_cases h : a < 0
  · rw [if_pos h, if_pos h, w64 (by omega) (by omega)]
  · rw [if_neg h, if_neg h]

theorem rd_dvs (n i : Int) (h0 : 0 ≤ i) (h : i < n) : rd (dvs n 0 n.toNat) i = dv n i := by
  unfold rd dvs
  rw [List.getD_eq_getElem?_getD, List.getElem?_map, List.getElem?_range (by omega)]
  simp [show ((i.toNat : Nat) : Int) = i by omega]
theorem dv_rise (n i : Int) (h1 : 1 ≤ n) (h2 : n ≤ 1000) (h : 0 ≤ i) : dv n (i - 1) < dv n i := by
  unfold dv near
  have e : (2 * ((i - 1) * 1296000) + n + 1 * (2 * n)) / (2 * n) = (2 * ((i - 1) * 1296000) + n) / (2 * n) + 1 := Int.add_mul_ediv_right _ _ (by omega)
  have := Int.ediv_le_ediv (c := 2 * n) (by omega) (show 2 * ((i - 1) * 1296000) + n + 1 * (2 * n) ≤ 2 * (i * 1296000) + n by omega)
  omega
theorem rg_small (n i : Int) (h1 : 1 ≤ n) : 2 * rg n i ≤ n := by
  unfold rg dv near ab
  have a := Int.ediv_mul_le (2 * (i * 1296000) + n) (b := 2 * n) (by omega)
  have b := Int.lt_ediv_add_one_mul_self (2 * (i * 1296000) + n) (b := 2 * n) (by omega)
  generalize (2 * (i * 1296000) + n) / (2 * n) = q at *
  have e1 : q * (2 * n) = 2 * (n * q) := by grind
  have e2 : (q + 1) * (2 * n) = 2 * (n * q) + 2 * n := by grind
  split <;> omega

theorem bytes_of {l : List Int} (h : ∀ x ∈ l, (Lit.int .u8 x).wf = true) : ∀ x ∈ l, 0 ≤ x ∧ x ≤ 255 := by
  intro x hx
  simpa [Lit.wf, IntKind.min, IntKind.max, IntKind.signed, IntKind.bits] using h x hx

theorem Cal_l (x6 x7 x11 n w : Int) (h1 : 1 ≤ n) (h2 : n ≤ 1000) (hw : ∀ j, 0 ≤ j → j < n → rg n j ≤ w) (hw0 : 0 ≤ w) (hw2 : 2 * w ≤ n) (h6 : x6 = 0 → 0 ≤ x7 ∧ x7 < 1296000 ∧ x11 = x7 / 108000) : ∀ (d k : Nat) (i : Int), n - i = d → 0 ≤ i → d < k → laws_FnCalendars.l0 k x6 x7 x11 n (dvs n 0 n.toNat) w i = some true := by
  have hlen : ((dvs n 0 n.toNat).length : Int) = n := by simp [dvs]; omega
  intro d
  induction d with
  | zero =>
    intro k i hd h0 hk
    obtain ⟨k, rfl⟩ : ∃ m, k = m + 1 := ⟨k - 1, by omega⟩
    simp only [laws_FnCalendars.l0]
    rw [hlen, if_neg (by omega), if_pos rfl, w64 (n := 2 * w) (by omega) (by omega), if_neg (by omega)]
    by_cases e : x6 = 0
    · obtain ⟨a, b, c⟩ := h6 e
      rw [if_pos e, if_pos a, if_pos b, Int.tdiv_eq_ediv_of_nonneg a, w64 (by omega) (by omega), c]; simp
    · rw [if_neg e]
  | succ d ih =>
    intro k i hd h0 hk
    obtain ⟨k, rfl⟩ : ∃ m, k = m + 1 := ⟨k - 1, by omega⟩
    obtain ⟨g1, g2⟩ := rg_bounds n i h1 h2 h0 (by omega)
    simp only [laws_FnCalendars.l0]
    rw [hlen, if_pos (by omega), if_pos h0, rd_dvs n i h0 (by omega), w64 (n := n * dv n i) (by omega) (by omega), w64 (n := i * 1296000) (by omega) (by omega), w64 (n := n * dv n i - i * 1296000) (by omega) (by omega), f6abs_ _ (by omega) (by omega)]; simp only [Option.bind_some]
    have hr : ab (n * dv n i - i * 1296000) ≤ w := hw i h0 (by omega)
    rw [if_neg (by omega), w64 (n := i + 1) (by omega) (by omega)]
    by_cases e : i > 0
    · have := dv_rise n i h1 h2 h0
      rw [if_pos e, w64 (n := i - 1) (by omega) (by omega), if_pos (by omega), if_pos (by omega), rd_dvs n (i - 1) (by omega) (by omega), if_neg (by omega)]
      exact ih k (i + 1) (by omega) (by omega) (by omega)
    · rw [if_neg e]
      exact ih k (i + 1) (by omega) (by omega) (by omega)

theorem FnCalendars : laws_FnCalendars.Pure := by
  intro l _ _ hl
  have hl := bytes_of hl
  refine ⟨1010, ?_⟩
  unfold laws_FnCalendars.f
  rw [show laws_f6big.f l = some (decide ((l.length : Int) > 4096)) from rfl]; simp only [Option.bind_some, decide_eq_true_eq]
  by_cases hb : (l.length : Int) > 4096
  · rw [if_pos hb]
  rw [if_neg hb]
  obtain ⟨y, day, e1⟩ := DrawSunOn_ l hl 1010 (by omega)
  rw [e1]; simp only [Option.bind_some]
  rw [ImplSunOn_, SpecSunOn_, ImplSignOf_, SpecSignOf_]; simp only [Option.bind_some]
  obtain ⟨y2, lon, e2⟩ := DrawDayOfSun_ l hl 1010 (by omega)
  rw [e2]; simp only [Option.bind_some]
  obtain ⟨r, hr, hr2⟩ := SpecDayOfSun_ y2 lon
  rw [ImplDayOfSun_, hr _ (by omega)]; simp only [Option.bind_some]
  obtain ⟨n, e3⟩ := DrawDivisionsOf_ l hl
  rw [e3]; simp only [Option.bind_some]
  obtain ⟨ds, c, hd, hd2, hd3⟩ := SpecDivs_ n
  rw [ImplDivs_, hd _ (by omega)]; simp only [Option.bind_some]
  obtain ⟨m, ang, e4⟩ := DrawNear_ l hl
  rw [e4]; simp only [Option.bind_some]
  obtain ⟨q, hq⟩ := SpecNear_ m ang
  rw [ImplNear_, hq _ (by omega)]; simp only [Option.bind_some]
  obtain ⟨w, hw, hw2⟩ := SpecRing_ n
  rw [ImplRing_, hw _ (by omega)]; simp only [Option.bind_some, if_true]
  rw [f6ints_ ds (by omega) _ (by omega)]; simp only [Option.bind_some, if_true, laws_FnCalendars.j0]
  generalize hA : (if (1 ≤ y ∧ y ≤ 366) ∧ 0 ≤ day ∧ day ≤ y - 1 then (day * 1296000 / y, (0 : Int)) else (0, 2)) = A
  generalize hB : (if (1 ≤ y ∧ y ≤ 366) ∧ 0 ≤ day ∧ day ≤ y - 1 then (day * 1296000 / y / 108000, (0 : Int)) else (0, 2)) = B
  have h6 : A.2 = 0 → 0 ≤ A.1 ∧ A.1 < 1296000 ∧ B.1 = A.1 / 108000 := by
    subst hA; subst hB
    by_cases c : (1 ≤ y ∧ y ≤ 366) ∧ 0 ≤ day ∧ day ≤ y - 1
    · rw [if_pos c, if_pos c]; intro _
      exact ⟨Int.ediv_nonneg (by omega) (by omega), Int.ediv_lt_of_lt_mul (by omega) (by omega), rfl⟩
    · rw [if_neg c]; intro h; simp at h
  have j2 : ∀ k, 1005 ≤ k → laws_FnCalendars.j2 k A.2 A.1 B.1 n c ds w.1 = some true := by
    intro k hk
    obtain ⟨k, rfl⟩ : ∃ m, k = m + 1 := ⟨k - 1, by omega⟩
    simp only [laws_FnCalendars.j2]
    by_cases ec : c = 0
    · obtain ⟨n1, n2, n3⟩ := hd3 ec
      obtain ⟨w1, w2, w3, w4⟩ := hw2 n1 n2
      rw [if_pos ec, n3]
      refine Cal_l _ _ _ n w.1 n1 n2 w3 w2 ?_ h6 n.toNat k 0 (by omega) (by omega) (by omega)
      rcases w4 with w4 | ⟨j, _, _, w4⟩
      · omega
      · rw [w4]; exact rg_small n j n1
    · rw [if_neg ec]
      by_cases e : A.2 = 0
      · obtain ⟨a, b, c⟩ := h6 e
        rw [if_pos e, if_pos a, if_pos b, Int.tdiv_eq_ediv_of_nonneg a, w64 (by omega) (by omega), c]; simp
      · rw [if_neg e]
  rw [if_neg (by simp)]
  by_cases hc : r.2 = 0
  · obtain ⟨r1, r2, r3, r4, r5, r6⟩ := hr2 hc
    rw [if_pos hc, ImplSunOn_, if_pos (by omega)]; simp only [Option.bind_some, if_true, laws_FnCalendars.j1]
    rw [if_neg (by simp; omega)]
    by_cases hp : r.1 > 0
    · have := r6 (r.1 - 1) (by omega) (by omega)
      rw [if_pos hp, w64 (n := r.1 - 1) (by omega) (by omega), ImplSunOn_, if_pos (by omega)]; simp only [Option.bind_some, if_true]
      rw [if_neg (by omega)]; exact j2 _ (by omega)
    · rw [if_neg hp]; exact j2 _ (by omega)
  · rw [if_neg hc]; exact j2 _ (by omega)

end Go.Proofs.Ytncejfhmachapaa.Pure
