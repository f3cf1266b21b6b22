/- Walks of the Go functions that the law FnCalendars reaches: written by a program of this session. -/
import Derived.Test.YtncejfhmachapaaQFnCalendarsx0
import Derived.Test.YtncejfhmachapaaQFnCalendarsx1
import Derived.Test.YtncejfhmachapaaQFnCalendarsx2
import Derived.Test.YtncejfhmachapaaQFnCalendarsx3
import Derived.Test.YtncejfhmachapaaQFnCalendarsx4
namespace Go.Proofs.Ytncejfhmachapaa.QFnCalendars
open Go.RowKit Go.Proofs.YtncejfhmachapaaW.PrintWords Go.Proofs.YtncejfhmachapaaW.PrintLast Go.Proofs.YtncejfhmachapaaW.PrintMore
attribute [local go_sem] max2_int min2_int max_two min_two max_three min_three max_four min_four   -- for this text's walks alone
set_option linter.unusedVariables false
set_option linter.unusedSimpArgs false

/-! ### laws_FnCalendars: function 9 -/
mutual
def laws_FnCalendars.j0 : Nat → Int → Int → Int → Int → Int → Int → Int → Int → Int → List Int → Int → Bool → Option (Bool)
  | 0, _, _, _, _, _, _, _, _, _, _, _, _ => none
  | k + 1, x6, x7, x11, x13, x14, x16, x17, x19, x21, x22, x32, x184 => if x184 = true then (some false) else (if x16 = 0 then ((impl_SunOn.f x13 x17).bind fun bt314 => (if bt314.2 = 0 then (laws_FnCalendars.j1 k x6 x7 x11 x13 x14 x17 x19 x21 x22 x32 (decide (bt314.1 < x14))) else (laws_FnCalendars.j1 k x6 x7 x11 x13 x14 x17 x19 x21 x22 x32 true))) else (laws_FnCalendars.j2 k x6 x7 x11 x19 x21 x22 x32))
def laws_FnCalendars.j2 : Nat → Int → Int → Int → Int → Int → List Int → Int → Option (Bool)
  | 0, _, _, _, _, _, _, _ => none
  | k + 1, x6, x7, x11, x19, x21, x22, x32 => if x21 = 0 then (laws_FnCalendars.l0 k x6 x7 x11 x19 x22 x32 0) else (if x6 = 0 then (if x7 ≥ 0 then (if x7 < 1296000 then (some (x11 == (wrap64 (Int.tdiv x7 108000)))) else (some false)) else (some false)) else (some true))
def laws_FnCalendars.l0 : Nat → Int → Int → Int → Int → List Int → Int → Int → Option (Bool)
  | 0, _, _, _, _, _, _, _ => none
  | k + 1, x6, x7, x11, x19, x22, x32, x38 => if x38 < (x22.length : Int) then (if 0 ≤ x38 then ((laws_f6abs.f (wrap64 ((wrap64 (x19 * (rd x22 x38))) - (wrap64 (x38 * 1296000))))).bind fun t319 => (if t319 > x32 then (some false) else (if x38 > 0 then (if 0 ≤ (wrap64 (x38 - 1)) then (if (wrap64 (x38 - 1)) < (x22.length : Int) then (if (rd x22 (wrap64 (x38 - 1))) ≥ (rd x22 x38) then (some false) else (laws_FnCalendars.l0 k x6 x7 x11 x19 x22 x32 (wrap64 (x38 + 1)))) else (none)) else (none)) else (laws_FnCalendars.l0 k x6 x7 x11 x19 x22 x32 (wrap64 (x38 + 1)))))) else (none)) else (if (x22.length : Int) = x19 then (if (wrap64 (2 * x32)) > x19 then (some false) else (if x6 = 0 then (if x7 ≥ 0 then (if x7 < 1296000 then (some (x11 == (wrap64 (Int.tdiv x7 108000)))) else (some false)) else (some false)) else (some true))) else (some false))
def laws_FnCalendars.j1 : Nat → Int → Int → Int → Int → Int → Int → Int → Int → List Int → Int → Bool → Option (Bool)
  | 0, _, _, _, _, _, _, _, _, _, _, _ => none
  | k + 1, x6, x7, x11, x13, x14, x17, x19, x21, x22, x32, x199 => if x199 = true then (some false) else (if x17 > 0 then ((impl_SunOn.f x13 (wrap64 (x17 - 1))).bind fun bt316 => (if bt316.2 = 0 then (if bt316.1 ≥ x14 then (some false) else (laws_FnCalendars.j2 k x6 x7 x11 x19 x21 x22 x32)) else (some false))) else (laws_FnCalendars.j2 k x6 x7 x11 x19 x21 x22 x32))
end
def laws_FnCalendars.f (k : Nat) (l0 : List Int) : Option (Bool) := (laws_f6big.f l0).bind fun t277 => (if t277 = true then (some true) else ((spec_DrawSunOn.f k l0).bind fun bt278 => ((impl_SunOn.f bt278.1 bt278.2).bind fun bt280 => ((spec_SunOn.f bt278.1 bt278.2).bind fun bt282 => ((impl_SignOf.f bt278.1 bt278.2).bind fun bt284 => ((spec_SignOf.f bt278.1 bt278.2).bind fun bt286 => ((spec_DrawDayOfSun.f k l0).bind fun bt288 => ((impl_DayOfSun.f k bt288.1 bt288.2).bind fun bt290 => ((spec_DayOfSun.f k bt288.1 bt288.2).bind fun bt292 => ((spec_DrawDivisionsOf.f l0).bind fun t294 => ((impl_DivisionsOf.f k t294).bind fun bt295 => ((spec_DivisionsOf.f k t294).bind fun bt299 => ((spec_DrawNearestDivision.f l0).bind fun bt303 => ((impl_NearestDivision.f k bt303.1 bt303.2).bind fun bt305 => ((spec_NearestDivision.f k bt303.1 bt303.2).bind fun bt307 => ((impl_RingError.f k t294).bind fun bt309 => ((spec_RingError.f k t294).bind fun bt311 => (if bt280.2 = bt282.2 then (if bt280.1 = bt282.1 then (if bt284.2 = bt286.2 then (if bt284.1 = bt286.1 then (if bt290.2 = bt292.2 then (if bt290.1 = bt292.1 then (if bt295.2 = bt299.2 then ((laws_f6ints.f k bt295.1 bt299.1).bind fun t313 => (if t313 = true then (if bt305.2 = bt307.2 then (if bt305.1 = bt307.1 then (if bt309.2 = bt311.2 then (laws_FnCalendars.j0 k bt280.2 bt282.1 bt286.1 bt288.1 bt288.2 bt290.2 bt292.1 t294 bt295.2 bt299.1 bt311.1 (bt309.1 != bt311.1)) else (laws_FnCalendars.j0 k bt280.2 bt282.1 bt286.1 bt288.1 bt288.2 bt290.2 bt292.1 t294 bt295.2 bt299.1 bt311.1 true)) else (laws_FnCalendars.j0 k bt280.2 bt282.1 bt286.1 bt288.1 bt288.2 bt290.2 bt292.1 t294 bt295.2 bt299.1 bt311.1 true)) else (laws_FnCalendars.j0 k bt280.2 bt282.1 bt286.1 bt288.1 bt288.2 bt290.2 bt292.1 t294 bt295.2 bt299.1 bt311.1 true)) else (laws_FnCalendars.j0 k bt280.2 bt282.1 bt286.1 bt288.1 bt288.2 bt290.2 bt292.1 t294 bt295.2 bt299.1 bt311.1 true))) else (laws_FnCalendars.j0 k bt280.2 bt282.1 bt286.1 bt288.1 bt288.2 bt290.2 bt292.1 t294 bt295.2 bt299.1 bt311.1 true)) else (laws_FnCalendars.j0 k bt280.2 bt282.1 bt286.1 bt288.1 bt288.2 bt290.2 bt292.1 t294 bt295.2 bt299.1 bt311.1 true)) else (laws_FnCalendars.j0 k bt280.2 bt282.1 bt286.1 bt288.1 bt288.2 bt290.2 bt292.1 t294 bt295.2 bt299.1 bt311.1 true)) else (laws_FnCalendars.j0 k bt280.2 bt282.1 bt286.1 bt288.1 bt288.2 bt290.2 bt292.1 t294 bt295.2 bt299.1 bt311.1 true)) else (laws_FnCalendars.j0 k bt280.2 bt282.1 bt286.1 bt288.1 bt288.2 bt290.2 bt292.1 t294 bt295.2 bt299.1 bt311.1 true)) else (laws_FnCalendars.j0 k bt280.2 bt282.1 bt286.1 bt288.1 bt288.2 bt290.2 bt292.1 t294 bt295.2 bt299.1 bt311.1 true)) else (laws_FnCalendars.j0 k bt280.2 bt282.1 bt286.1 bt288.1 bt288.2 bt290.2 bt292.1 t294 bt295.2 bt299.1 bt311.1 true)))))))))))))))))))
theorem laws_FnCalendars.mono_l : ∀ k, (∀ y0 y1 y2 y3 y4 y5 y6 y7 y8 y9 y10 y11, LeO (laws_FnCalendars.j0 k y0 y1 y2 y3 y4 y5 y6 y7 y8 y9 y10 y11) (laws_FnCalendars.j0 (k + 1) y0 y1 y2 y3 y4 y5 y6 y7 y8 y9 y10 y11)) ∧ (∀ y0 y1 y2 y3 y4 y5 y6, LeO (laws_FnCalendars.j2 k y0 y1 y2 y3 y4 y5 y6) (laws_FnCalendars.j2 (k + 1) y0 y1 y2 y3 y4 y5 y6)) ∧ (∀ y0 y1 y2 y3 y4 y5 y6, LeO (laws_FnCalendars.l0 k y0 y1 y2 y3 y4 y5 y6) (laws_FnCalendars.l0 (k + 1) y0 y1 y2 y3 y4 y5 y6)) ∧ (∀ y0 y1 y2 y3 y4 y5 y6 y7 y8 y9 y10, LeO (laws_FnCalendars.j1 k y0 y1 y2 y3 y4 y5 y6 y7 y8 y9 y10) (laws_FnCalendars.j1 (k + 1) y0 y1 y2 y3 y4 y5 y6 y7 y8 y9 y10))
  | 0 => ⟨fun _ _ _ _ _ _ _ _ _ _ _ _ r h => by simp [laws_FnCalendars.j0] at h, fun _ _ _ _ _ _ _ r h => by simp [laws_FnCalendars.j2] at h, fun _ _ _ _ _ _ _ r h => by simp [laws_FnCalendars.l0] at h, fun _ _ _ _ _ _ _ _ _ _ _ r h => by simp [laws_FnCalendars.j1] at h⟩
  | k + 1 => by
    obtain ⟨ih0, ih1, ih2, ih3⟩ := laws_FnCalendars.mono_l k
    refine ⟨?_, ?_, ?_, ?_⟩
    · intro y0 y1 y2 y3 y4 y5 y6 y7 y8 y9 y10 y11
      unfold laws_FnCalendars.j0
      repeat' first
      | (with_reducible exact ih0 _ _ _ _ _ _ _ _ _ _ _ _)
      | (with_reducible exact ih1 _ _ _ _ _ _ _)
      | (with_reducible exact ih2 _ _ _ _ _ _ _)
      | (with_reducible exact ih3 _ _ _ _ _ _ _ _ _ _ _)
      | (with_reducible exact impl_DayOfSun.mono _ _ _)
      | (with_reducible exact impl_DivisionsOf.mono _ _)
      | (with_reducible exact impl_NearestDivision.mono _ _ _)
      | (with_reducible exact impl_RingError.mono _ _)
      | (with_reducible exact laws_f6ints.mono _ _ _)
      | (with_reducible exact spec_DayOfSun.mono _ _ _)
      | (with_reducible exact spec_DivisionsOf.mono _ _)
      | (with_reducible exact spec_DrawDayOfSun.mono _ _)
      | (with_reducible exact spec_DrawSunOn.mono _ _)
      | (with_reducible exact spec_NearestDivision.mono _ _ _)
      | (with_reducible exact spec_RingError.mono _ _)
      | (with_reducible exact LeO.refl _)
      | (with_reducible exact LeO.none _)
      | (with_reducible refine LeO.ite ?_ ?_)
      | (with_reducible refine LeO.bind ?_ (fun _ => ?_))
      | exact ih0 _ _ _ _ _ _ _ _ _ _ _ _
      | exact ih1 _ _ _ _ _ _ _
      | exact ih2 _ _ _ _ _ _ _
      | exact ih3 _ _ _ _ _ _ _ _ _ _ _
      | exact impl_DayOfSun.mono _ _ _
      | exact impl_DivisionsOf.mono _ _
      | exact impl_NearestDivision.mono _ _ _
      | exact impl_RingError.mono _ _
      | exact laws_f6ints.mono _ _ _
      | exact spec_DayOfSun.mono _ _ _
      | exact spec_DivisionsOf.mono _ _
      | exact spec_DrawDayOfSun.mono _ _
      | exact spec_DrawSunOn.mono _ _
      | exact spec_NearestDivision.mono _ _ _
      | exact spec_RingError.mono _ _
      | exact LeO.none _
      | refine LeO.ite ?_ ?_
      | refine LeO.bind ?_ (fun _ => ?_)
    · intro y0 y1 y2 y3 y4 y5 y6
      unfold laws_FnCalendars.j2
      repeat' first
      | (with_reducible exact ih0 _ _ _ _ _ _ _ _ _ _ _ _)
      | (with_reducible exact ih1 _ _ _ _ _ _ _)
      | (with_reducible exact ih2 _ _ _ _ _ _ _)
      | (with_reducible exact ih3 _ _ _ _ _ _ _ _ _ _ _)
      | (with_reducible exact impl_DayOfSun.mono _ _ _)
      | (with_reducible exact impl_DivisionsOf.mono _ _)
      | (with_reducible exact impl_NearestDivision.mono _ _ _)
      | (with_reducible exact impl_RingError.mono _ _)
      | (with_reducible exact laws_f6ints.mono _ _ _)
      | (with_reducible exact spec_DayOfSun.mono _ _ _)
      | (with_reducible exact spec_DivisionsOf.mono _ _)
      | (with_reducible exact spec_DrawDayOfSun.mono _ _)
      | (with_reducible exact spec_DrawSunOn.mono _ _)
      | (with_reducible exact spec_NearestDivision.mono _ _ _)
      | (with_reducible exact spec_RingError.mono _ _)
      | (with_reducible exact LeO.refl _)
      | (with_reducible exact LeO.none _)
      | (with_reducible refine LeO.ite ?_ ?_)
      | (with_reducible refine LeO.bind ?_ (fun _ => ?_))
      | exact ih0 _ _ _ _ _ _ _ _ _ _ _ _
      | exact ih1 _ _ _ _ _ _ _
      | exact ih2 _ _ _ _ _ _ _
      | exact ih3 _ _ _ _ _ _ _ _ _ _ _
      | exact impl_DayOfSun.mono _ _ _
      | exact impl_DivisionsOf.mono _ _
      | exact impl_NearestDivision.mono _ _ _
      | exact impl_RingError.mono _ _
      | exact laws_f6ints.mono _ _ _
      | exact spec_DayOfSun.mono _ _ _
      | exact spec_DivisionsOf.mono _ _
      | exact spec_DrawDayOfSun.mono _ _
      | exact spec_DrawSunOn.mono _ _
      | exact spec_NearestDivision.mono _ _ _
      | exact spec_RingError.mono _ _
      | exact LeO.none _
      | refine LeO.ite ?_ ?_
      | refine LeO.bind ?_ (fun _ => ?_)
    · intro y0 y1 y2 y3 y4 y5 y6
      unfold laws_FnCalendars.l0
      repeat' first
      | (with_reducible exact ih0 _ _ _ _ _ _ _ _ _ _ _ _)
      | (with_reducible exact ih1 _ _ _ _ _ _ _)
      | (with_reducible exact ih2 _ _ _ _ _ _ _)
      | (with_reducible exact ih3 _ _ _ _ _ _ _ _ _ _ _)
      | (with_reducible exact impl_DayOfSun.mono _ _ _)
      | (with_reducible exact impl_DivisionsOf.mono _ _)
      | (with_reducible exact impl_NearestDivision.mono _ _ _)
      | (with_reducible exact impl_RingError.mono _ _)
      | (with_reducible exact laws_f6ints.mono _ _ _)
      | (with_reducible exact spec_DayOfSun.mono _ _ _)
      | (with_reducible exact spec_DivisionsOf.mono _ _)
      | (with_reducible exact spec_DrawDayOfSun.mono _ _)
      | (with_reducible exact spec_DrawSunOn.mono _ _)
      | (with_reducible exact spec_NearestDivision.mono _ _ _)
      | (with_reducible exact spec_RingError.mono _ _)
      | (with_reducible exact LeO.refl _)
      | (with_reducible exact LeO.none _)
      | (with_reducible refine LeO.ite ?_ ?_)
      | (with_reducible refine LeO.bind ?_ (fun _ => ?_))
      | exact ih0 _ _ _ _ _ _ _ _ _ _ _ _
      | exact ih1 _ _ _ _ _ _ _
      | exact ih2 _ _ _ _ _ _ _
      | exact ih3 _ _ _ _ _ _ _ _ _ _ _
      | exact impl_DayOfSun.mono _ _ _
      | exact impl_DivisionsOf.mono _ _
      | exact impl_NearestDivision.mono _ _ _
      | exact impl_RingError.mono _ _
      | exact laws_f6ints.mono _ _ _
      | exact spec_DayOfSun.mono _ _ _
      | exact spec_DivisionsOf.mono _ _
      | exact spec_DrawDayOfSun.mono _ _
      | exact spec_DrawSunOn.mono _ _
      | exact spec_NearestDivision.mono _ _ _
      | exact spec_RingError.mono _ _
      | exact LeO.none _
      | refine LeO.ite ?_ ?_
      | refine LeO.bind ?_ (fun _ => ?_)
    · intro y0 y1 y2 y3 y4 y5 y6 y7 y8 y9 y10
      unfold laws_FnCalendars.j1
      repeat' first
      | (with_reducible exact ih0 _ _ _ _ _ _ _ _ _ _ _ _)
      | (with_reducible exact ih1 _ _ _ _ _ _ _)
      | (with_reducible exact ih2 _ _ _ _ _ _ _)
      | (with_reducible exact ih3 _ _ _ _ _ _ _ _ _ _ _)
      | (with_reducible exact impl_DayOfSun.mono _ _ _)
      | (with_reducible exact impl_DivisionsOf.mono _ _)
      | (with_reducible exact impl_NearestDivision.mono _ _ _)
      | (with_reducible exact impl_RingError.mono _ _)
      | (with_reducible exact laws_f6ints.mono _ _ _)
      | (with_reducible exact spec_DayOfSun.mono _ _ _)
      | (with_reducible exact spec_DivisionsOf.mono _ _)
      | (with_reducible exact spec_DrawDayOfSun.mono _ _)
      | (with_reducible exact spec_DrawSunOn.mono _ _)
      | (with_reducible exact spec_NearestDivision.mono _ _ _)
      | (with_reducible exact spec_RingError.mono _ _)
      | (with_reducible exact LeO.refl _)
      | (with_reducible exact LeO.none _)
      | (with_reducible refine LeO.ite ?_ ?_)
      | (with_reducible refine LeO.bind ?_ (fun _ => ?_))
      | exact ih0 _ _ _ _ _ _ _ _ _ _ _ _
      | exact ih1 _ _ _ _ _ _ _
      | exact ih2 _ _ _ _ _ _ _
      | exact ih3 _ _ _ _ _ _ _ _ _ _ _
      | exact impl_DayOfSun.mono _ _ _
      | exact impl_DivisionsOf.mono _ _
      | exact impl_NearestDivision.mono _ _ _
      | exact impl_RingError.mono _ _
      | exact laws_f6ints.mono _ _ _
      | exact spec_DayOfSun.mono _ _ _
      | exact spec_DivisionsOf.mono _ _
      | exact spec_DrawDayOfSun.mono _ _
      | exact spec_DrawSunOn.mono _ _
      | exact spec_NearestDivision.mono _ _ _
      | exact spec_RingError.mono _ _
      | exact LeO.none _
      | refine LeO.ite ?_ ?_
      | refine LeO.bind ?_ (fun _ => ?_)
theorem laws_FnCalendars.mono : ∀ a0 k, LeO (laws_FnCalendars.f k a0) (laws_FnCalendars.f (k + 1) a0) := by
  intro a0 k
  obtain ⟨ih0, ih1, ih2, ih3⟩ := laws_FnCalendars.mono_l k
  unfold laws_FnCalendars.f
  repeat' first
      | (with_reducible exact ih0 _ _ _ _ _ _ _ _ _ _ _ _)
      | (with_reducible exact ih1 _ _ _ _ _ _ _)
      | (with_reducible exact ih2 _ _ _ _ _ _ _)
      | (with_reducible exact ih3 _ _ _ _ _ _ _ _ _ _ _)
      | (with_reducible exact impl_DayOfSun.mono _ _ _)
      | (with_reducible exact impl_DivisionsOf.mono _ _)
      | (with_reducible exact impl_NearestDivision.mono _ _ _)
      | (with_reducible exact impl_RingError.mono _ _)
      | (with_reducible exact laws_f6ints.mono _ _ _)
      | (with_reducible exact spec_DayOfSun.mono _ _ _)
      | (with_reducible exact spec_DivisionsOf.mono _ _)
      | (with_reducible exact spec_DrawDayOfSun.mono _ _)
      | (with_reducible exact spec_DrawSunOn.mono _ _)
      | (with_reducible exact spec_NearestDivision.mono _ _ _)
      | (with_reducible exact spec_RingError.mono _ _)
      | (with_reducible exact LeO.refl _)
      | (with_reducible exact LeO.none _)
      | (with_reducible refine LeO.ite ?_ ?_)
      | (with_reducible refine LeO.bind ?_ (fun _ => ?_))
      | exact ih0 _ _ _ _ _ _ _ _ _ _ _ _
      | exact ih1 _ _ _ _ _ _ _
      | exact ih2 _ _ _ _ _ _ _
      | exact ih3 _ _ _ _ _ _ _ _ _ _ _
      | exact impl_DayOfSun.mono _ _ _
      | exact impl_DivisionsOf.mono _ _
      | exact impl_NearestDivision.mono _ _ _
      | exact impl_RingError.mono _ _
      | exact laws_f6ints.mono _ _ _
      | exact spec_DayOfSun.mono _ _ _
      | exact spec_DivisionsOf.mono _ _
      | exact spec_DrawDayOfSun.mono _ _
      | exact spec_DrawSunOn.mono _ _
      | exact spec_NearestDivision.mono _ _ _
      | exact spec_RingError.mono _ _
      | exact LeO.none _
      | refine LeO.ite ?_ ?_
      | refine LeO.bind ?_ (fun _ => ?_)
set_option maxHeartbeats 8000000 in
set_option maxRecDepth 100000 in
theorem laws_FnCalendars.calls (k : Nat) (A0 : Option Addr) (c0 : Nat) (l0 : List Int) (r : Bool) (w : World) (hr0 : Kd.C (Kd.int .u8) w A0 l0.length l0) (hc0 : l0.length ≤ c0) (h : laws_FnCalendars.f k l0 = some r) :
    Calls Try.prog 9 #[.slice A0 l0.length c0] w fun e w' => e = .returned (.bool r) ∧ Below w.heap.size w w' := by
  have HR0 := Aside0.mk hr0
  have HC0 := Aside0.mk hc0
  clear hr0 hc0
  have HB := Aside0.mk (Below.refl w.heap.size w)
  have H : ((laws_f6big.f l0).bind fun t277 => (if t277 = true then (some true) else ((spec_DrawSunOn.f k l0).bind fun bt278 => ((impl_SunOn.f bt278.1 bt278.2).bind fun bt280 => ((spec_SunOn.f bt278.1 bt278.2).bind fun bt282 => ((impl_SignOf.f bt278.1 bt278.2).bind fun bt284 => ((spec_SignOf.f bt278.1 bt278.2).bind fun bt286 => ((spec_DrawDayOfSun.f k l0).bind fun bt288 => ((impl_DayOfSun.f k bt288.1 bt288.2).bind fun bt290 => ((spec_DayOfSun.f k bt288.1 bt288.2).bind fun bt292 => ((spec_DrawDivisionsOf.f l0).bind fun t294 => ((impl_DivisionsOf.f k t294).bind fun bt295 => ((spec_DivisionsOf.f k t294).bind fun bt299 => ((spec_DrawNearestDivision.f l0).bind fun bt303 => ((impl_NearestDivision.f k bt303.1 bt303.2).bind fun bt305 => ((spec_NearestDivision.f k bt303.1 bt303.2).bind fun bt307 => ((impl_RingError.f k t294).bind fun bt309 => ((spec_RingError.f k t294).bind fun bt311 => (if bt280.2 = bt282.2 then (if bt280.1 = bt282.1 then (if bt284.2 = bt286.2 then (if bt284.1 = bt286.1 then (if bt290.2 = bt292.2 then (if bt290.1 = bt292.1 then (if bt295.2 = bt299.2 then ((laws_f6ints.f k bt295.1 bt299.1).bind fun t313 => (if t313 = true then (if bt305.2 = bt307.2 then (if bt305.1 = bt307.1 then (if bt309.2 = bt311.2 then (laws_FnCalendars.j0 k bt280.2 bt282.1 bt286.1 bt288.1 bt288.2 bt290.2 bt292.1 t294 bt295.2 bt299.1 bt311.1 (bt309.1 != bt311.1)) else (laws_FnCalendars.j0 k bt280.2 bt282.1 bt286.1 bt288.1 bt288.2 bt290.2 bt292.1 t294 bt295.2 bt299.1 bt311.1 true)) else (laws_FnCalendars.j0 k bt280.2 bt282.1 bt286.1 bt288.1 bt288.2 bt290.2 bt292.1 t294 bt295.2 bt299.1 bt311.1 true)) else (laws_FnCalendars.j0 k bt280.2 bt282.1 bt286.1 bt288.1 bt288.2 bt290.2 bt292.1 t294 bt295.2 bt299.1 bt311.1 true)) else (laws_FnCalendars.j0 k bt280.2 bt282.1 bt286.1 bt288.1 bt288.2 bt290.2 bt292.1 t294 bt295.2 bt299.1 bt311.1 true))) else (laws_FnCalendars.j0 k bt280.2 bt282.1 bt286.1 bt288.1 bt288.2 bt290.2 bt292.1 t294 bt295.2 bt299.1 bt311.1 true)) else (laws_FnCalendars.j0 k bt280.2 bt282.1 bt286.1 bt288.1 bt288.2 bt290.2 bt292.1 t294 bt295.2 bt299.1 bt311.1 true)) else (laws_FnCalendars.j0 k bt280.2 bt282.1 bt286.1 bt288.1 bt288.2 bt290.2 bt292.1 t294 bt295.2 bt299.1 bt311.1 true)) else (laws_FnCalendars.j0 k bt280.2 bt282.1 bt286.1 bt288.1 bt288.2 bt290.2 bt292.1 t294 bt295.2 bt299.1 bt311.1 true)) else (laws_FnCalendars.j0 k bt280.2 bt282.1 bt286.1 bt288.1 bt288.2 bt290.2 bt292.1 t294 bt295.2 bt299.1 bt311.1 true)) else (laws_FnCalendars.j0 k bt280.2 bt282.1 bt286.1 bt288.1 bt288.2 bt290.2 bt292.1 t294 bt295.2 bt299.1 bt311.1 true)) else (laws_FnCalendars.j0 k bt280.2 bt282.1 bt286.1 bt288.1 bt288.2 bt290.2 bt292.1 t294 bt295.2 bt299.1 bt311.1 true)))))))))))))))))))) = some r := h
  clear h
  replace H := Option.bind_eq_some_iff.mp H
  obtain ⟨t277, A20, H⟩ := H
  replace H : (if t277 = true then (some true) else ((spec_DrawSunOn.f k l0).bind fun bt278 => ((impl_SunOn.f bt278.1 bt278.2).bind fun bt280 => ((spec_SunOn.f bt278.1 bt278.2).bind fun bt282 => ((impl_SignOf.f bt278.1 bt278.2).bind fun bt284 => ((spec_SignOf.f bt278.1 bt278.2).bind fun bt286 => ((spec_DrawDayOfSun.f k l0).bind fun bt288 => ((impl_DayOfSun.f k bt288.1 bt288.2).bind fun bt290 => ((spec_DayOfSun.f k bt288.1 bt288.2).bind fun bt292 => ((spec_DrawDivisionsOf.f l0).bind fun t294 => ((impl_DivisionsOf.f k t294).bind fun bt295 => ((spec_DivisionsOf.f k t294).bind fun bt299 => ((spec_DrawNearestDivision.f l0).bind fun bt303 => ((impl_NearestDivision.f k bt303.1 bt303.2).bind fun bt305 => ((spec_NearestDivision.f k bt303.1 bt303.2).bind fun bt307 => ((impl_RingError.f k t294).bind fun bt309 => ((spec_RingError.f k t294).bind fun bt311 => (if bt280.2 = bt282.2 then (if bt280.1 = bt282.1 then (if bt284.2 = bt286.2 then (if bt284.1 = bt286.1 then (if bt290.2 = bt292.2 then (if bt290.1 = bt292.1 then (if bt295.2 = bt299.2 then ((laws_f6ints.f k bt295.1 bt299.1).bind fun t313 => (if t313 = true then (if bt305.2 = bt307.2 then (if bt305.1 = bt307.1 then (if bt309.2 = bt311.2 then (laws_FnCalendars.j0 k bt280.2 bt282.1 bt286.1 bt288.1 bt288.2 bt290.2 bt292.1 t294 bt295.2 bt299.1 bt311.1 (bt309.1 != bt311.1)) else (laws_FnCalendars.j0 k bt280.2 bt282.1 bt286.1 bt288.1 bt288.2 bt290.2 bt292.1 t294 bt295.2 bt299.1 bt311.1 true)) else (laws_FnCalendars.j0 k bt280.2 bt282.1 bt286.1 bt288.1 bt288.2 bt290.2 bt292.1 t294 bt295.2 bt299.1 bt311.1 true)) else (laws_FnCalendars.j0 k bt280.2 bt282.1 bt286.1 bt288.1 bt288.2 bt290.2 bt292.1 t294 bt295.2 bt299.1 bt311.1 true)) else (laws_FnCalendars.j0 k bt280.2 bt282.1 bt286.1 bt288.1 bt288.2 bt290.2 bt292.1 t294 bt295.2 bt299.1 bt311.1 true))) else (laws_FnCalendars.j0 k bt280.2 bt282.1 bt286.1 bt288.1 bt288.2 bt290.2 bt292.1 t294 bt295.2 bt299.1 bt311.1 true)) else (laws_FnCalendars.j0 k bt280.2 bt282.1 bt286.1 bt288.1 bt288.2 bt290.2 bt292.1 t294 bt295.2 bt299.1 bt311.1 true)) else (laws_FnCalendars.j0 k bt280.2 bt282.1 bt286.1 bt288.1 bt288.2 bt290.2 bt292.1 t294 bt295.2 bt299.1 bt311.1 true)) else (laws_FnCalendars.j0 k bt280.2 bt282.1 bt286.1 bt288.1 bt288.2 bt290.2 bt292.1 t294 bt295.2 bt299.1 bt311.1 true)) else (laws_FnCalendars.j0 k bt280.2 bt282.1 bt286.1 bt288.1 bt288.2 bt290.2 bt292.1 t294 bt295.2 bt299.1 bt311.1 true)) else (laws_FnCalendars.j0 k bt280.2 bt282.1 bt286.1 bt288.1 bt288.2 bt290.2 bt292.1 t294 bt295.2 bt299.1 bt311.1 true)) else (laws_FnCalendars.j0 k bt280.2 bt282.1 bt286.1 bt288.1 bt288.2 bt290.2 bt292.1 t294 bt295.2 bt299.1 bt311.1 true))))))))))))))))))) = some r := H
  have A2 := Aside0.mk A20
  clear A20
  by_cases c3 : t277 = true
  · subst c3
    have H1 : (some true) = some r := by rw [if_pos rfl] at H; exact H
    clear H
    have H := H1
    clear H1
    obtain rfl := Option.some.inj H
    go_enter Try.func9, Try.ntmps9
    go_wp2_with (first | (go_at_call 30; (with_reducible refine (laws_f6big.calls _ _ l0 true _ ?side1 ?side2 A2.out).mono ?_); (case side1 => repeat (first | exact HR0.out | (with_reducible refine Kd.C_alloc ?_ _) | (with_reducible refine Kd.C_drewN ?_ _) | (with_reducible refine Kd.C_drew ?_))); (case side2 => exact HC0.out); rintro e w' ⟨rfl, ⟨nd, rfl⟩⟩; (try first | exact ⟨rfl, _, World.drewN_drewN _ _ _⟩ | exact ⟨rfl, _, Eq.trans (World.drewN_drewN _ _ _) (congrArg (World.drewN _) (Nat.add_assoc _ _ _))⟩)))
    repeat (go_quiet (first | (go_at_call 30; (with_reducible refine (laws_f6big.calls _ _ l0 true _ ?side1 ?side2 A2.out).mono ?_); (case side1 => repeat (first | exact HR0.out | (with_reducible refine Kd.C_alloc ?_ _) | (with_reducible refine Kd.C_drewN ?_ _) | (with_reducible refine Kd.C_drew ?_))); (case side2 => exact HC0.out); rintro e w' ⟨rfl, ⟨nd, rfl⟩⟩; (try first | exact ⟨rfl, _, World.drewN_drewN _ _ _⟩ | exact ⟨rfl, _, Eq.trans (World.drewN_drewN _ _ _) (congrArg (World.drewN _) (Nat.add_assoc _ _ _))⟩))); try go_wp2_with (first | (go_at_call 30; (with_reducible refine (laws_f6big.calls _ _ l0 true _ ?side1 ?side2 A2.out).mono ?_); (case side1 => repeat (first | exact HR0.out | (with_reducible refine Kd.C_alloc ?_ _) | (with_reducible refine Kd.C_drewN ?_ _) | (with_reducible refine Kd.C_drew ?_))); (case side2 => exact HC0.out); rintro e w' ⟨rfl, ⟨nd, rfl⟩⟩; (try first | exact ⟨rfl, _, World.drewN_drewN _ _ _⟩ | exact ⟨rfl, _, Eq.trans (World.drewN_drewN _ _ _) (congrArg (World.drewN _) (Nat.add_assoc _ _ _))⟩))))
    go_ret
    exact ⟨by first | rfl | (simp [errW_none, errW_some] <;> rfl) | (simp [*, errW_none, errW_some] <;> rfl), by repeat (first | (with_reducible first | exact HB.out | apply below_alloc | apply pw_below_drewN | apply below_drew1) | exact HB.out)⟩
  · replace c3 := Bool.eq_false_iff.mpr c3
    subst c3
    have H1 : ((spec_DrawSunOn.f k l0).bind fun bt278 => ((impl_SunOn.f bt278.1 bt278.2).bind fun bt280 => ((spec_SunOn.f bt278.1 bt278.2).bind fun bt282 => ((impl_SignOf.f bt278.1 bt278.2).bind fun bt284 => ((spec_SignOf.f bt278.1 bt278.2).bind fun bt286 => ((spec_DrawDayOfSun.f k l0).bind fun bt288 => ((impl_DayOfSun.f k bt288.1 bt288.2).bind fun bt290 => ((spec_DayOfSun.f k bt288.1 bt288.2).bind fun bt292 => ((spec_DrawDivisionsOf.f l0).bind fun t294 => ((impl_DivisionsOf.f k t294).bind fun bt295 => ((spec_DivisionsOf.f k t294).bind fun bt299 => ((spec_DrawNearestDivision.f l0).bind fun bt303 => ((impl_NearestDivision.f k bt303.1 bt303.2).bind fun bt305 => ((spec_NearestDivision.f k bt303.1 bt303.2).bind fun bt307 => ((impl_RingError.f k t294).bind fun bt309 => ((spec_RingError.f k t294).bind fun bt311 => (if bt280.2 = bt282.2 then (if bt280.1 = bt282.1 then (if bt284.2 = bt286.2 then (if bt284.1 = bt286.1 then (if bt290.2 = bt292.2 then (if bt290.1 = bt292.1 then (if bt295.2 = bt299.2 then ((laws_f6ints.f k bt295.1 bt299.1).bind fun t313 => (if t313 = true then (if bt305.2 = bt307.2 then (if bt305.1 = bt307.1 then (if bt309.2 = bt311.2 then (laws_FnCalendars.j0 k bt280.2 bt282.1 bt286.1 bt288.1 bt288.2 bt290.2 bt292.1 t294 bt295.2 bt299.1 bt311.1 (bt309.1 != bt311.1)) else (laws_FnCalendars.j0 k bt280.2 bt282.1 bt286.1 bt288.1 bt288.2 bt290.2 bt292.1 t294 bt295.2 bt299.1 bt311.1 true)) else (laws_FnCalendars.j0 k bt280.2 bt282.1 bt286.1 bt288.1 bt288.2 bt290.2 bt292.1 t294 bt295.2 bt299.1 bt311.1 true)) else (laws_FnCalendars.j0 k bt280.2 bt282.1 bt286.1 bt288.1 bt288.2 bt290.2 bt292.1 t294 bt295.2 bt299.1 bt311.1 true)) else (laws_FnCalendars.j0 k bt280.2 bt282.1 bt286.1 bt288.1 bt288.2 bt290.2 bt292.1 t294 bt295.2 bt299.1 bt311.1 true))) else (laws_FnCalendars.j0 k bt280.2 bt282.1 bt286.1 bt288.1 bt288.2 bt290.2 bt292.1 t294 bt295.2 bt299.1 bt311.1 true)) else (laws_FnCalendars.j0 k bt280.2 bt282.1 bt286.1 bt288.1 bt288.2 bt290.2 bt292.1 t294 bt295.2 bt299.1 bt311.1 true)) else (laws_FnCalendars.j0 k bt280.2 bt282.1 bt286.1 bt288.1 bt288.2 bt290.2 bt292.1 t294 bt295.2 bt299.1 bt311.1 true)) else (laws_FnCalendars.j0 k bt280.2 bt282.1 bt286.1 bt288.1 bt288.2 bt290.2 bt292.1 t294 bt295.2 bt299.1 bt311.1 true)) else (laws_FnCalendars.j0 k bt280.2 bt282.1 bt286.1 bt288.1 bt288.2 bt290.2 bt292.1 t294 bt295.2 bt299.1 bt311.1 true)) else (laws_FnCalendars.j0 k bt280.2 bt282.1 bt286.1 bt288.1 bt288.2 bt290.2 bt292.1 t294 bt295.2 bt299.1 bt311.1 true)) else (laws_FnCalendars.j0 k bt280.2 bt282.1 bt286.1 bt288.1 bt288.2 bt290.2 bt292.1 t294 bt295.2 bt299.1 bt311.1 true)))))))))))))))))) = some r := by rw [if_neg (show ¬ (false = true) by decide)] at H; exact H
    clear H
    have H := H1
    clear H1
    replace H := Option.bind_eq_some_iff.mp H
    obtain ⟨⟨t278, t279⟩, A40, H⟩ := H
    replace H : ((impl_SunOn.f t278 t279).bind fun bt280 => ((spec_SunOn.f t278 t279).bind fun bt282 => ((impl_SignOf.f t278 t279).bind fun bt284 => ((spec_SignOf.f t278 t279).bind fun bt286 => ((spec_DrawDayOfSun.f k l0).bind fun bt288 => ((impl_DayOfSun.f k bt288.1 bt288.2).bind fun bt290 => ((spec_DayOfSun.f k bt288.1 bt288.2).bind fun bt292 => ((spec_DrawDivisionsOf.f l0).bind fun t294 => ((impl_DivisionsOf.f k t294).bind fun bt295 => ((spec_DivisionsOf.f k t294).bind fun bt299 => ((spec_DrawNearestDivision.f l0).bind fun bt303 => ((impl_NearestDivision.f k bt303.1 bt303.2).bind fun bt305 => ((spec_NearestDivision.f k bt303.1 bt303.2).bind fun bt307 => ((impl_RingError.f k t294).bind fun bt309 => ((spec_RingError.f k t294).bind fun bt311 => (if bt280.2 = bt282.2 then (if bt280.1 = bt282.1 then (if bt284.2 = bt286.2 then (if bt284.1 = bt286.1 then (if bt290.2 = bt292.2 then (if bt290.1 = bt292.1 then (if bt295.2 = bt299.2 then ((laws_f6ints.f k bt295.1 bt299.1).bind fun t313 => (if t313 = true then (if bt305.2 = bt307.2 then (if bt305.1 = bt307.1 then (if bt309.2 = bt311.2 then (laws_FnCalendars.j0 k bt280.2 bt282.1 bt286.1 bt288.1 bt288.2 bt290.2 bt292.1 t294 bt295.2 bt299.1 bt311.1 (bt309.1 != bt311.1)) else (laws_FnCalendars.j0 k bt280.2 bt282.1 bt286.1 bt288.1 bt288.2 bt290.2 bt292.1 t294 bt295.2 bt299.1 bt311.1 true)) else (laws_FnCalendars.j0 k bt280.2 bt282.1 bt286.1 bt288.1 bt288.2 bt290.2 bt292.1 t294 bt295.2 bt299.1 bt311.1 true)) else (laws_FnCalendars.j0 k bt280.2 bt282.1 bt286.1 bt288.1 bt288.2 bt290.2 bt292.1 t294 bt295.2 bt299.1 bt311.1 true)) else (laws_FnCalendars.j0 k bt280.2 bt282.1 bt286.1 bt288.1 bt288.2 bt290.2 bt292.1 t294 bt295.2 bt299.1 bt311.1 true))) else (laws_FnCalendars.j0 k bt280.2 bt282.1 bt286.1 bt288.1 bt288.2 bt290.2 bt292.1 t294 bt295.2 bt299.1 bt311.1 true)) else (laws_FnCalendars.j0 k bt280.2 bt282.1 bt286.1 bt288.1 bt288.2 bt290.2 bt292.1 t294 bt295.2 bt299.1 bt311.1 true)) else (laws_FnCalendars.j0 k bt280.2 bt282.1 bt286.1 bt288.1 bt288.2 bt290.2 bt292.1 t294 bt295.2 bt299.1 bt311.1 true)) else (laws_FnCalendars.j0 k bt280.2 bt282.1 bt286.1 bt288.1 bt288.2 bt290.2 bt292.1 t294 bt295.2 bt299.1 bt311.1 true)) else (laws_FnCalendars.j0 k bt280.2 bt282.1 bt286.1 bt288.1 bt288.2 bt290.2 bt292.1 t294 bt295.2 bt299.1 bt311.1 true)) else (laws_FnCalendars.j0 k bt280.2 bt282.1 bt286.1 bt288.1 bt288.2 bt290.2 bt292.1 t294 bt295.2 bt299.1 bt311.1 true)) else (laws_FnCalendars.j0 k bt280.2 bt282.1 bt286.1 bt288.1 bt288.2 bt290.2 bt292.1 t294 bt295.2 bt299.1 bt311.1 true))))))))))))))))) = some r := H
    have A4 := Aside0.mk A40
    clear A40
    replace H := Option.bind_eq_some_iff.mp H
    obtain ⟨⟨t280, t281⟩, A50, H⟩ := H
    replace H : ((spec_SunOn.f t278 t279).bind fun bt282 => ((impl_SignOf.f t278 t279).bind fun bt284 => ((spec_SignOf.f t278 t279).bind fun bt286 => ((spec_DrawDayOfSun.f k l0).bind fun bt288 => ((impl_DayOfSun.f k bt288.1 bt288.2).bind fun bt290 => ((spec_DayOfSun.f k bt288.1 bt288.2).bind fun bt292 => ((spec_DrawDivisionsOf.f l0).bind fun t294 => ((impl_DivisionsOf.f k t294).bind fun bt295 => ((spec_DivisionsOf.f k t294).bind fun bt299 => ((spec_DrawNearestDivision.f l0).bind fun bt303 => ((impl_NearestDivision.f k bt303.1 bt303.2).bind fun bt305 => ((spec_NearestDivision.f k bt303.1 bt303.2).bind fun bt307 => ((impl_RingError.f k t294).bind fun bt309 => ((spec_RingError.f k t294).bind fun bt311 => (if t281 = bt282.2 then (if t280 = bt282.1 then (if bt284.2 = bt286.2 then (if bt284.1 = bt286.1 then (if bt290.2 = bt292.2 then (if bt290.1 = bt292.1 then (if bt295.2 = bt299.2 then ((laws_f6ints.f k bt295.1 bt299.1).bind fun t313 => (if t313 = true then (if bt305.2 = bt307.2 then (if bt305.1 = bt307.1 then (if bt309.2 = bt311.2 then (laws_FnCalendars.j0 k t281 bt282.1 bt286.1 bt288.1 bt288.2 bt290.2 bt292.1 t294 bt295.2 bt299.1 bt311.1 (bt309.1 != bt311.1)) else (laws_FnCalendars.j0 k t281 bt282.1 bt286.1 bt288.1 bt288.2 bt290.2 bt292.1 t294 bt295.2 bt299.1 bt311.1 true)) else (laws_FnCalendars.j0 k t281 bt282.1 bt286.1 bt288.1 bt288.2 bt290.2 bt292.1 t294 bt295.2 bt299.1 bt311.1 true)) else (laws_FnCalendars.j0 k t281 bt282.1 bt286.1 bt288.1 bt288.2 bt290.2 bt292.1 t294 bt295.2 bt299.1 bt311.1 true)) else (laws_FnCalendars.j0 k t281 bt282.1 bt286.1 bt288.1 bt288.2 bt290.2 bt292.1 t294 bt295.2 bt299.1 bt311.1 true))) else (laws_FnCalendars.j0 k t281 bt282.1 bt286.1 bt288.1 bt288.2 bt290.2 bt292.1 t294 bt295.2 bt299.1 bt311.1 true)) else (laws_FnCalendars.j0 k t281 bt282.1 bt286.1 bt288.1 bt288.2 bt290.2 bt292.1 t294 bt295.2 bt299.1 bt311.1 true)) else (laws_FnCalendars.j0 k t281 bt282.1 bt286.1 bt288.1 bt288.2 bt290.2 bt292.1 t294 bt295.2 bt299.1 bt311.1 true)) else (laws_FnCalendars.j0 k t281 bt282.1 bt286.1 bt288.1 bt288.2 bt290.2 bt292.1 t294 bt295.2 bt299.1 bt311.1 true)) else (laws_FnCalendars.j0 k t281 bt282.1 bt286.1 bt288.1 bt288.2 bt290.2 bt292.1 t294 bt295.2 bt299.1 bt311.1 true)) else (laws_FnCalendars.j0 k t281 bt282.1 bt286.1 bt288.1 bt288.2 bt290.2 bt292.1 t294 bt295.2 bt299.1 bt311.1 true)) else (laws_FnCalendars.j0 k t281 bt282.1 bt286.1 bt288.1 bt288.2 bt290.2 bt292.1 t294 bt295.2 bt299.1 bt311.1 true)))))))))))))))) = some r := H
    have A5 := Aside0.mk A50
    clear A50
    replace H := Option.bind_eq_some_iff.mp H
    obtain ⟨⟨t282, t283⟩, A60, H⟩ := H
    replace H : ((impl_SignOf.f t278 t279).bind fun bt284 => ((spec_SignOf.f t278 t279).bind fun bt286 => ((spec_DrawDayOfSun.f k l0).bind fun bt288 => ((impl_DayOfSun.f k bt288.1 bt288.2).bind fun bt290 => ((spec_DayOfSun.f k bt288.1 bt288.2).bind fun bt292 => ((spec_DrawDivisionsOf.f l0).bind fun t294 => ((impl_DivisionsOf.f k t294).bind fun bt295 => ((spec_DivisionsOf.f k t294).bind fun bt299 => ((spec_DrawNearestDivision.f l0).bind fun bt303 => ((impl_NearestDivision.f k bt303.1 bt303.2).bind fun bt305 => ((spec_NearestDivision.f k bt303.1 bt303.2).bind fun bt307 => ((impl_RingError.f k t294).bind fun bt309 => ((spec_RingError.f k t294).bind fun bt311 => (if t281 = t283 then (if t280 = t282 then (if bt284.2 = bt286.2 then (if bt284.1 = bt286.1 then (if bt290.2 = bt292.2 then (if bt290.1 = bt292.1 then (if bt295.2 = bt299.2 then ((laws_f6ints.f k bt295.1 bt299.1).bind fun t313 => (if t313 = true then (if bt305.2 = bt307.2 then (if bt305.1 = bt307.1 then (if bt309.2 = bt311.2 then (laws_FnCalendars.j0 k t281 t282 bt286.1 bt288.1 bt288.2 bt290.2 bt292.1 t294 bt295.2 bt299.1 bt311.1 (bt309.1 != bt311.1)) else (laws_FnCalendars.j0 k t281 t282 bt286.1 bt288.1 bt288.2 bt290.2 bt292.1 t294 bt295.2 bt299.1 bt311.1 true)) else (laws_FnCalendars.j0 k t281 t282 bt286.1 bt288.1 bt288.2 bt290.2 bt292.1 t294 bt295.2 bt299.1 bt311.1 true)) else (laws_FnCalendars.j0 k t281 t282 bt286.1 bt288.1 bt288.2 bt290.2 bt292.1 t294 bt295.2 bt299.1 bt311.1 true)) else (laws_FnCalendars.j0 k t281 t282 bt286.1 bt288.1 bt288.2 bt290.2 bt292.1 t294 bt295.2 bt299.1 bt311.1 true))) else (laws_FnCalendars.j0 k t281 t282 bt286.1 bt288.1 bt288.2 bt290.2 bt292.1 t294 bt295.2 bt299.1 bt311.1 true)) else (laws_FnCalendars.j0 k t281 t282 bt286.1 bt288.1 bt288.2 bt290.2 bt292.1 t294 bt295.2 bt299.1 bt311.1 true)) else (laws_FnCalendars.j0 k t281 t282 bt286.1 bt288.1 bt288.2 bt290.2 bt292.1 t294 bt295.2 bt299.1 bt311.1 true)) else (laws_FnCalendars.j0 k t281 t282 bt286.1 bt288.1 bt288.2 bt290.2 bt292.1 t294 bt295.2 bt299.1 bt311.1 true)) else (laws_FnCalendars.j0 k t281 t282 bt286.1 bt288.1 bt288.2 bt290.2 bt292.1 t294 bt295.2 bt299.1 bt311.1 true)) else (laws_FnCalendars.j0 k t281 t282 bt286.1 bt288.1 bt288.2 bt290.2 bt292.1 t294 bt295.2 bt299.1 bt311.1 true)) else (laws_FnCalendars.j0 k t281 t282 bt286.1 bt288.1 bt288.2 bt290.2 bt292.1 t294 bt295.2 bt299.1 bt311.1 true))))))))))))))) = some r := H
    have A6 := Aside0.mk A60
    clear A60
    replace H := Option.bind_eq_some_iff.mp H
    obtain ⟨⟨t284, t285⟩, A70, H⟩ := H
    replace H : ((spec_SignOf.f t278 t279).bind fun bt286 => ((spec_DrawDayOfSun.f k l0).bind fun bt288 => ((impl_DayOfSun.f k bt288.1 bt288.2).bind fun bt290 => ((spec_DayOfSun.f k bt288.1 bt288.2).bind fun bt292 => ((spec_DrawDivisionsOf.f l0).bind fun t294 => ((impl_DivisionsOf.f k t294).bind fun bt295 => ((spec_DivisionsOf.f k t294).bind fun bt299 => ((spec_DrawNearestDivision.f l0).bind fun bt303 => ((impl_NearestDivision.f k bt303.1 bt303.2).bind fun bt305 => ((spec_NearestDivision.f k bt303.1 bt303.2).bind fun bt307 => ((impl_RingError.f k t294).bind fun bt309 => ((spec_RingError.f k t294).bind fun bt311 => (if t281 = t283 then (if t280 = t282 then (if t285 = bt286.2 then (if t284 = bt286.1 then (if bt290.2 = bt292.2 then (if bt290.1 = bt292.1 then (if bt295.2 = bt299.2 then ((laws_f6ints.f k bt295.1 bt299.1).bind fun t313 => (if t313 = true then (if bt305.2 = bt307.2 then (if bt305.1 = bt307.1 then (if bt309.2 = bt311.2 then (laws_FnCalendars.j0 k t281 t282 bt286.1 bt288.1 bt288.2 bt290.2 bt292.1 t294 bt295.2 bt299.1 bt311.1 (bt309.1 != bt311.1)) else (laws_FnCalendars.j0 k t281 t282 bt286.1 bt288.1 bt288.2 bt290.2 bt292.1 t294 bt295.2 bt299.1 bt311.1 true)) else (laws_FnCalendars.j0 k t281 t282 bt286.1 bt288.1 bt288.2 bt290.2 bt292.1 t294 bt295.2 bt299.1 bt311.1 true)) else (laws_FnCalendars.j0 k t281 t282 bt286.1 bt288.1 bt288.2 bt290.2 bt292.1 t294 bt295.2 bt299.1 bt311.1 true)) else (laws_FnCalendars.j0 k t281 t282 bt286.1 bt288.1 bt288.2 bt290.2 bt292.1 t294 bt295.2 bt299.1 bt311.1 true))) else (laws_FnCalendars.j0 k t281 t282 bt286.1 bt288.1 bt288.2 bt290.2 bt292.1 t294 bt295.2 bt299.1 bt311.1 true)) else (laws_FnCalendars.j0 k t281 t282 bt286.1 bt288.1 bt288.2 bt290.2 bt292.1 t294 bt295.2 bt299.1 bt311.1 true)) else (laws_FnCalendars.j0 k t281 t282 bt286.1 bt288.1 bt288.2 bt290.2 bt292.1 t294 bt295.2 bt299.1 bt311.1 true)) else (laws_FnCalendars.j0 k t281 t282 bt286.1 bt288.1 bt288.2 bt290.2 bt292.1 t294 bt295.2 bt299.1 bt311.1 true)) else (laws_FnCalendars.j0 k t281 t282 bt286.1 bt288.1 bt288.2 bt290.2 bt292.1 t294 bt295.2 bt299.1 bt311.1 true)) else (laws_FnCalendars.j0 k t281 t282 bt286.1 bt288.1 bt288.2 bt290.2 bt292.1 t294 bt295.2 bt299.1 bt311.1 true)) else (laws_FnCalendars.j0 k t281 t282 bt286.1 bt288.1 bt288.2 bt290.2 bt292.1 t294 bt295.2 bt299.1 bt311.1 true)))))))))))))) = some r := H
    have A7 := Aside0.mk A70
    clear A70
    replace H := Option.bind_eq_some_iff.mp H
    obtain ⟨⟨t286, t287⟩, A80, H⟩ := H
    replace H : ((spec_DrawDayOfSun.f k l0).bind fun bt288 => ((impl_DayOfSun.f k bt288.1 bt288.2).bind fun bt290 => ((spec_DayOfSun.f k bt288.1 bt288.2).bind fun bt292 => ((spec_DrawDivisionsOf.f l0).bind fun t294 => ((impl_DivisionsOf.f k t294).bind fun bt295 => ((spec_DivisionsOf.f k t294).bind fun bt299 => ((spec_DrawNearestDivision.f l0).bind fun bt303 => ((impl_NearestDivision.f k bt303.1 bt303.2).bind fun bt305 => ((spec_NearestDivision.f k bt303.1 bt303.2).bind fun bt307 => ((impl_RingError.f k t294).bind fun bt309 => ((spec_RingError.f k t294).bind fun bt311 => (if t281 = t283 then (if t280 = t282 then (if t285 = t287 then (if t284 = t286 then (if bt290.2 = bt292.2 then (if bt290.1 = bt292.1 then (if bt295.2 = bt299.2 then ((laws_f6ints.f k bt295.1 bt299.1).bind fun t313 => (if t313 = true then (if bt305.2 = bt307.2 then (if bt305.1 = bt307.1 then (if bt309.2 = bt311.2 then (laws_FnCalendars.j0 k t281 t282 t286 bt288.1 bt288.2 bt290.2 bt292.1 t294 bt295.2 bt299.1 bt311.1 (bt309.1 != bt311.1)) else (laws_FnCalendars.j0 k t281 t282 t286 bt288.1 bt288.2 bt290.2 bt292.1 t294 bt295.2 bt299.1 bt311.1 true)) else (laws_FnCalendars.j0 k t281 t282 t286 bt288.1 bt288.2 bt290.2 bt292.1 t294 bt295.2 bt299.1 bt311.1 true)) else (laws_FnCalendars.j0 k t281 t282 t286 bt288.1 bt288.2 bt290.2 bt292.1 t294 bt295.2 bt299.1 bt311.1 true)) else (laws_FnCalendars.j0 k t281 t282 t286 bt288.1 bt288.2 bt290.2 bt292.1 t294 bt295.2 bt299.1 bt311.1 true))) else (laws_FnCalendars.j0 k t281 t282 t286 bt288.1 bt288.2 bt290.2 bt292.1 t294 bt295.2 bt299.1 bt311.1 true)) else (laws_FnCalendars.j0 k t281 t282 t286 bt288.1 bt288.2 bt290.2 bt292.1 t294 bt295.2 bt299.1 bt311.1 true)) else (laws_FnCalendars.j0 k t281 t282 t286 bt288.1 bt288.2 bt290.2 bt292.1 t294 bt295.2 bt299.1 bt311.1 true)) else (laws_FnCalendars.j0 k t281 t282 t286 bt288.1 bt288.2 bt290.2 bt292.1 t294 bt295.2 bt299.1 bt311.1 true)) else (laws_FnCalendars.j0 k t281 t282 t286 bt288.1 bt288.2 bt290.2 bt292.1 t294 bt295.2 bt299.1 bt311.1 true)) else (laws_FnCalendars.j0 k t281 t282 t286 bt288.1 bt288.2 bt290.2 bt292.1 t294 bt295.2 bt299.1 bt311.1 true)) else (laws_FnCalendars.j0 k t281 t282 t286 bt288.1 bt288.2 bt290.2 bt292.1 t294 bt295.2 bt299.1 bt311.1 true))))))))))))) = some r := H
    have A8 := Aside0.mk A80
    clear A80
    replace H := Option.bind_eq_some_iff.mp H
    obtain ⟨⟨t288, t289⟩, A90, H⟩ := H
    replace H : ((impl_DayOfSun.f k t288 t289).bind fun bt290 => ((spec_DayOfSun.f k t288 t289).bind fun bt292 => ((spec_DrawDivisionsOf.f l0).bind fun t294 => ((impl_DivisionsOf.f k t294).bind fun bt295 => ((spec_DivisionsOf.f k t294).bind fun bt299 => ((spec_DrawNearestDivision.f l0).bind fun bt303 => ((impl_NearestDivision.f k bt303.1 bt303.2).bind fun bt305 => ((spec_NearestDivision.f k bt303.1 bt303.2).bind fun bt307 => ((impl_RingError.f k t294).bind fun bt309 => ((spec_RingError.f k t294).bind fun bt311 => (if t281 = t283 then (if t280 = t282 then (if t285 = t287 then (if t284 = t286 then (if bt290.2 = bt292.2 then (if bt290.1 = bt292.1 then (if bt295.2 = bt299.2 then ((laws_f6ints.f k bt295.1 bt299.1).bind fun t313 => (if t313 = true then (if bt305.2 = bt307.2 then (if bt305.1 = bt307.1 then (if bt309.2 = bt311.2 then (laws_FnCalendars.j0 k t281 t282 t286 t288 t289 bt290.2 bt292.1 t294 bt295.2 bt299.1 bt311.1 (bt309.1 != bt311.1)) else (laws_FnCalendars.j0 k t281 t282 t286 t288 t289 bt290.2 bt292.1 t294 bt295.2 bt299.1 bt311.1 true)) else (laws_FnCalendars.j0 k t281 t282 t286 t288 t289 bt290.2 bt292.1 t294 bt295.2 bt299.1 bt311.1 true)) else (laws_FnCalendars.j0 k t281 t282 t286 t288 t289 bt290.2 bt292.1 t294 bt295.2 bt299.1 bt311.1 true)) else (laws_FnCalendars.j0 k t281 t282 t286 t288 t289 bt290.2 bt292.1 t294 bt295.2 bt299.1 bt311.1 true))) else (laws_FnCalendars.j0 k t281 t282 t286 t288 t289 bt290.2 bt292.1 t294 bt295.2 bt299.1 bt311.1 true)) else (laws_FnCalendars.j0 k t281 t282 t286 t288 t289 bt290.2 bt292.1 t294 bt295.2 bt299.1 bt311.1 true)) else (laws_FnCalendars.j0 k t281 t282 t286 t288 t289 bt290.2 bt292.1 t294 bt295.2 bt299.1 bt311.1 true)) else (laws_FnCalendars.j0 k t281 t282 t286 t288 t289 bt290.2 bt292.1 t294 bt295.2 bt299.1 bt311.1 true)) else (laws_FnCalendars.j0 k t281 t282 t286 t288 t289 bt290.2 bt292.1 t294 bt295.2 bt299.1 bt311.1 true)) else (laws_FnCalendars.j0 k t281 t282 t286 t288 t289 bt290.2 bt292.1 t294 bt295.2 bt299.1 bt311.1 true)) else (laws_FnCalendars.j0 k t281 t282 t286 t288 t289 bt290.2 bt292.1 t294 bt295.2 bt299.1 bt311.1 true)))))))))))) = some r := H
    have A9 := Aside0.mk A90
    clear A90
    replace H := Option.bind_eq_some_iff.mp H
    obtain ⟨⟨t290, t291⟩, A100, H⟩ := H
    replace H : ((spec_DayOfSun.f k t288 t289).bind fun bt292 => ((spec_DrawDivisionsOf.f l0).bind fun t294 => ((impl_DivisionsOf.f k t294).bind fun bt295 => ((spec_DivisionsOf.f k t294).bind fun bt299 => ((spec_DrawNearestDivision.f l0).bind fun bt303 => ((impl_NearestDivision.f k bt303.1 bt303.2).bind fun bt305 => ((spec_NearestDivision.f k bt303.1 bt303.2).bind fun bt307 => ((impl_RingError.f k t294).bind fun bt309 => ((spec_RingError.f k t294).bind fun bt311 => (if t281 = t283 then (if t280 = t282 then (if t285 = t287 then (if t284 = t286 then (if t291 = bt292.2 then (if t290 = bt292.1 then (if bt295.2 = bt299.2 then ((laws_f6ints.f k bt295.1 bt299.1).bind fun t313 => (if t313 = true then (if bt305.2 = bt307.2 then (if bt305.1 = bt307.1 then (if bt309.2 = bt311.2 then (laws_FnCalendars.j0 k t281 t282 t286 t288 t289 t291 bt292.1 t294 bt295.2 bt299.1 bt311.1 (bt309.1 != bt311.1)) else (laws_FnCalendars.j0 k t281 t282 t286 t288 t289 t291 bt292.1 t294 bt295.2 bt299.1 bt311.1 true)) else (laws_FnCalendars.j0 k t281 t282 t286 t288 t289 t291 bt292.1 t294 bt295.2 bt299.1 bt311.1 true)) else (laws_FnCalendars.j0 k t281 t282 t286 t288 t289 t291 bt292.1 t294 bt295.2 bt299.1 bt311.1 true)) else (laws_FnCalendars.j0 k t281 t282 t286 t288 t289 t291 bt292.1 t294 bt295.2 bt299.1 bt311.1 true))) else (laws_FnCalendars.j0 k t281 t282 t286 t288 t289 t291 bt292.1 t294 bt295.2 bt299.1 bt311.1 true)) else (laws_FnCalendars.j0 k t281 t282 t286 t288 t289 t291 bt292.1 t294 bt295.2 bt299.1 bt311.1 true)) else (laws_FnCalendars.j0 k t281 t282 t286 t288 t289 t291 bt292.1 t294 bt295.2 bt299.1 bt311.1 true)) else (laws_FnCalendars.j0 k t281 t282 t286 t288 t289 t291 bt292.1 t294 bt295.2 bt299.1 bt311.1 true)) else (laws_FnCalendars.j0 k t281 t282 t286 t288 t289 t291 bt292.1 t294 bt295.2 bt299.1 bt311.1 true)) else (laws_FnCalendars.j0 k t281 t282 t286 t288 t289 t291 bt292.1 t294 bt295.2 bt299.1 bt311.1 true)) else (laws_FnCalendars.j0 k t281 t282 t286 t288 t289 t291 bt292.1 t294 bt295.2 bt299.1 bt311.1 true))))))))))) = some r := H
    have A10 := Aside0.mk A100
    clear A100
    replace H := Option.bind_eq_some_iff.mp H
    obtain ⟨⟨t292, t293⟩, A110, H⟩ := H
    replace H : ((spec_DrawDivisionsOf.f l0).bind fun t294 => ((impl_DivisionsOf.f k t294).bind fun bt295 => ((spec_DivisionsOf.f k t294).bind fun bt299 => ((spec_DrawNearestDivision.f l0).bind fun bt303 => ((impl_NearestDivision.f k bt303.1 bt303.2).bind fun bt305 => ((spec_NearestDivision.f k bt303.1 bt303.2).bind fun bt307 => ((impl_RingError.f k t294).bind fun bt309 => ((spec_RingError.f k t294).bind fun bt311 => (if t281 = t283 then (if t280 = t282 then (if t285 = t287 then (if t284 = t286 then (if t291 = t293 then (if t290 = t292 then (if bt295.2 = bt299.2 then ((laws_f6ints.f k bt295.1 bt299.1).bind fun t313 => (if t313 = true then (if bt305.2 = bt307.2 then (if bt305.1 = bt307.1 then (if bt309.2 = bt311.2 then (laws_FnCalendars.j0 k t281 t282 t286 t288 t289 t291 t292 t294 bt295.2 bt299.1 bt311.1 (bt309.1 != bt311.1)) else (laws_FnCalendars.j0 k t281 t282 t286 t288 t289 t291 t292 t294 bt295.2 bt299.1 bt311.1 true)) else (laws_FnCalendars.j0 k t281 t282 t286 t288 t289 t291 t292 t294 bt295.2 bt299.1 bt311.1 true)) else (laws_FnCalendars.j0 k t281 t282 t286 t288 t289 t291 t292 t294 bt295.2 bt299.1 bt311.1 true)) else (laws_FnCalendars.j0 k t281 t282 t286 t288 t289 t291 t292 t294 bt295.2 bt299.1 bt311.1 true))) else (laws_FnCalendars.j0 k t281 t282 t286 t288 t289 t291 t292 t294 bt295.2 bt299.1 bt311.1 true)) else (laws_FnCalendars.j0 k t281 t282 t286 t288 t289 t291 t292 t294 bt295.2 bt299.1 bt311.1 true)) else (laws_FnCalendars.j0 k t281 t282 t286 t288 t289 t291 t292 t294 bt295.2 bt299.1 bt311.1 true)) else (laws_FnCalendars.j0 k t281 t282 t286 t288 t289 t291 t292 t294 bt295.2 bt299.1 bt311.1 true)) else (laws_FnCalendars.j0 k t281 t282 t286 t288 t289 t291 t292 t294 bt295.2 bt299.1 bt311.1 true)) else (laws_FnCalendars.j0 k t281 t282 t286 t288 t289 t291 t292 t294 bt295.2 bt299.1 bt311.1 true)) else (laws_FnCalendars.j0 k t281 t282 t286 t288 t289 t291 t292 t294 bt295.2 bt299.1 bt311.1 true)))))))))) = some r := H
    have A11 := Aside0.mk A110
    clear A110
    replace H := Option.bind_eq_some_iff.mp H
    obtain ⟨t294, A120, H⟩ := H
    replace H : ((impl_DivisionsOf.f k t294).bind fun bt295 => ((spec_DivisionsOf.f k t294).bind fun bt299 => ((spec_DrawNearestDivision.f l0).bind fun bt303 => ((impl_NearestDivision.f k bt303.1 bt303.2).bind fun bt305 => ((spec_NearestDivision.f k bt303.1 bt303.2).bind fun bt307 => ((impl_RingError.f k t294).bind fun bt309 => ((spec_RingError.f k t294).bind fun bt311 => (if t281 = t283 then (if t280 = t282 then (if t285 = t287 then (if t284 = t286 then (if t291 = t293 then (if t290 = t292 then (if bt295.2 = bt299.2 then ((laws_f6ints.f k bt295.1 bt299.1).bind fun t313 => (if t313 = true then (if bt305.2 = bt307.2 then (if bt305.1 = bt307.1 then (if bt309.2 = bt311.2 then (laws_FnCalendars.j0 k t281 t282 t286 t288 t289 t291 t292 t294 bt295.2 bt299.1 bt311.1 (bt309.1 != bt311.1)) else (laws_FnCalendars.j0 k t281 t282 t286 t288 t289 t291 t292 t294 bt295.2 bt299.1 bt311.1 true)) else (laws_FnCalendars.j0 k t281 t282 t286 t288 t289 t291 t292 t294 bt295.2 bt299.1 bt311.1 true)) else (laws_FnCalendars.j0 k t281 t282 t286 t288 t289 t291 t292 t294 bt295.2 bt299.1 bt311.1 true)) else (laws_FnCalendars.j0 k t281 t282 t286 t288 t289 t291 t292 t294 bt295.2 bt299.1 bt311.1 true))) else (laws_FnCalendars.j0 k t281 t282 t286 t288 t289 t291 t292 t294 bt295.2 bt299.1 bt311.1 true)) else (laws_FnCalendars.j0 k t281 t282 t286 t288 t289 t291 t292 t294 bt295.2 bt299.1 bt311.1 true)) else (laws_FnCalendars.j0 k t281 t282 t286 t288 t289 t291 t292 t294 bt295.2 bt299.1 bt311.1 true)) else (laws_FnCalendars.j0 k t281 t282 t286 t288 t289 t291 t292 t294 bt295.2 bt299.1 bt311.1 true)) else (laws_FnCalendars.j0 k t281 t282 t286 t288 t289 t291 t292 t294 bt295.2 bt299.1 bt311.1 true)) else (laws_FnCalendars.j0 k t281 t282 t286 t288 t289 t291 t292 t294 bt295.2 bt299.1 bt311.1 true)) else (laws_FnCalendars.j0 k t281 t282 t286 t288 t289 t291 t292 t294 bt295.2 bt299.1 bt311.1 true))))))))) = some r := H
    have A12 := Aside0.mk A120
    clear A120
    replace H := Option.bind_eq_some_iff.mp H
    obtain ⟨⟨t295, t296⟩, A130, H⟩ := H
    replace H : ((spec_DivisionsOf.f k t294).bind fun bt299 => ((spec_DrawNearestDivision.f l0).bind fun bt303 => ((impl_NearestDivision.f k bt303.1 bt303.2).bind fun bt305 => ((spec_NearestDivision.f k bt303.1 bt303.2).bind fun bt307 => ((impl_RingError.f k t294).bind fun bt309 => ((spec_RingError.f k t294).bind fun bt311 => (if t281 = t283 then (if t280 = t282 then (if t285 = t287 then (if t284 = t286 then (if t291 = t293 then (if t290 = t292 then (if t296 = bt299.2 then ((laws_f6ints.f k t295 bt299.1).bind fun t313 => (if t313 = true then (if bt305.2 = bt307.2 then (if bt305.1 = bt307.1 then (if bt309.2 = bt311.2 then (laws_FnCalendars.j0 k t281 t282 t286 t288 t289 t291 t292 t294 t296 bt299.1 bt311.1 (bt309.1 != bt311.1)) else (laws_FnCalendars.j0 k t281 t282 t286 t288 t289 t291 t292 t294 t296 bt299.1 bt311.1 true)) else (laws_FnCalendars.j0 k t281 t282 t286 t288 t289 t291 t292 t294 t296 bt299.1 bt311.1 true)) else (laws_FnCalendars.j0 k t281 t282 t286 t288 t289 t291 t292 t294 t296 bt299.1 bt311.1 true)) else (laws_FnCalendars.j0 k t281 t282 t286 t288 t289 t291 t292 t294 t296 bt299.1 bt311.1 true))) else (laws_FnCalendars.j0 k t281 t282 t286 t288 t289 t291 t292 t294 t296 bt299.1 bt311.1 true)) else (laws_FnCalendars.j0 k t281 t282 t286 t288 t289 t291 t292 t294 t296 bt299.1 bt311.1 true)) else (laws_FnCalendars.j0 k t281 t282 t286 t288 t289 t291 t292 t294 t296 bt299.1 bt311.1 true)) else (laws_FnCalendars.j0 k t281 t282 t286 t288 t289 t291 t292 t294 t296 bt299.1 bt311.1 true)) else (laws_FnCalendars.j0 k t281 t282 t286 t288 t289 t291 t292 t294 t296 bt299.1 bt311.1 true)) else (laws_FnCalendars.j0 k t281 t282 t286 t288 t289 t291 t292 t294 t296 bt299.1 bt311.1 true)) else (laws_FnCalendars.j0 k t281 t282 t286 t288 t289 t291 t292 t294 t296 bt299.1 bt311.1 true)))))))) = some r := H
    have A13 := Aside0.mk A130
    clear A130
    replace H := Option.bind_eq_some_iff.mp H
    obtain ⟨⟨t299, t300⟩, A140, H⟩ := H
    replace H : ((spec_DrawNearestDivision.f l0).bind fun bt303 => ((impl_NearestDivision.f k bt303.1 bt303.2).bind fun bt305 => ((spec_NearestDivision.f k bt303.1 bt303.2).bind fun bt307 => ((impl_RingError.f k t294).bind fun bt309 => ((spec_RingError.f k t294).bind fun bt311 => (if t281 = t283 then (if t280 = t282 then (if t285 = t287 then (if t284 = t286 then (if t291 = t293 then (if t290 = t292 then (if t296 = t300 then ((laws_f6ints.f k t295 t299).bind fun t313 => (if t313 = true then (if bt305.2 = bt307.2 then (if bt305.1 = bt307.1 then (if bt309.2 = bt311.2 then (laws_FnCalendars.j0 k t281 t282 t286 t288 t289 t291 t292 t294 t296 t299 bt311.1 (bt309.1 != bt311.1)) else (laws_FnCalendars.j0 k t281 t282 t286 t288 t289 t291 t292 t294 t296 t299 bt311.1 true)) else (laws_FnCalendars.j0 k t281 t282 t286 t288 t289 t291 t292 t294 t296 t299 bt311.1 true)) else (laws_FnCalendars.j0 k t281 t282 t286 t288 t289 t291 t292 t294 t296 t299 bt311.1 true)) else (laws_FnCalendars.j0 k t281 t282 t286 t288 t289 t291 t292 t294 t296 t299 bt311.1 true))) else (laws_FnCalendars.j0 k t281 t282 t286 t288 t289 t291 t292 t294 t296 t299 bt311.1 true)) else (laws_FnCalendars.j0 k t281 t282 t286 t288 t289 t291 t292 t294 t296 t299 bt311.1 true)) else (laws_FnCalendars.j0 k t281 t282 t286 t288 t289 t291 t292 t294 t296 t299 bt311.1 true)) else (laws_FnCalendars.j0 k t281 t282 t286 t288 t289 t291 t292 t294 t296 t299 bt311.1 true)) else (laws_FnCalendars.j0 k t281 t282 t286 t288 t289 t291 t292 t294 t296 t299 bt311.1 true)) else (laws_FnCalendars.j0 k t281 t282 t286 t288 t289 t291 t292 t294 t296 t299 bt311.1 true)) else (laws_FnCalendars.j0 k t281 t282 t286 t288 t289 t291 t292 t294 t296 t299 bt311.1 true))))))) = some r := H
    have A14 := Aside0.mk A140
    clear A140
    replace H := Option.bind_eq_some_iff.mp H
    obtain ⟨⟨t303, t304⟩, A150, H⟩ := H
    replace H : ((impl_NearestDivision.f k t303 t304).bind fun bt305 => ((spec_NearestDivision.f k t303 t304).bind fun bt307 => ((impl_RingError.f k t294).bind fun bt309 => ((spec_RingError.f k t294).bind fun bt311 => (if t281 = t283 then (if t280 = t282 then (if t285 = t287 then (if t284 = t286 then (if t291 = t293 then (if t290 = t292 then (if t296 = t300 then ((laws_f6ints.f k t295 t299).bind fun t313 => (if t313 = true then (if bt305.2 = bt307.2 then (if bt305.1 = bt307.1 then (if bt309.2 = bt311.2 then (laws_FnCalendars.j0 k t281 t282 t286 t288 t289 t291 t292 t294 t296 t299 bt311.1 (bt309.1 != bt311.1)) else (laws_FnCalendars.j0 k t281 t282 t286 t288 t289 t291 t292 t294 t296 t299 bt311.1 true)) else (laws_FnCalendars.j0 k t281 t282 t286 t288 t289 t291 t292 t294 t296 t299 bt311.1 true)) else (laws_FnCalendars.j0 k t281 t282 t286 t288 t289 t291 t292 t294 t296 t299 bt311.1 true)) else (laws_FnCalendars.j0 k t281 t282 t286 t288 t289 t291 t292 t294 t296 t299 bt311.1 true))) else (laws_FnCalendars.j0 k t281 t282 t286 t288 t289 t291 t292 t294 t296 t299 bt311.1 true)) else (laws_FnCalendars.j0 k t281 t282 t286 t288 t289 t291 t292 t294 t296 t299 bt311.1 true)) else (laws_FnCalendars.j0 k t281 t282 t286 t288 t289 t291 t292 t294 t296 t299 bt311.1 true)) else (laws_FnCalendars.j0 k t281 t282 t286 t288 t289 t291 t292 t294 t296 t299 bt311.1 true)) else (laws_FnCalendars.j0 k t281 t282 t286 t288 t289 t291 t292 t294 t296 t299 bt311.1 true)) else (laws_FnCalendars.j0 k t281 t282 t286 t288 t289 t291 t292 t294 t296 t299 bt311.1 true)) else (laws_FnCalendars.j0 k t281 t282 t286 t288 t289 t291 t292 t294 t296 t299 bt311.1 true)))))) = some r := H
    have A15 := Aside0.mk A150
    clear A150
    replace H := Option.bind_eq_some_iff.mp H
    obtain ⟨⟨t305, t306⟩, A160, H⟩ := H
    replace H : ((spec_NearestDivision.f k t303 t304).bind fun bt307 => ((impl_RingError.f k t294).bind fun bt309 => ((spec_RingError.f k t294).bind fun bt311 => (if t281 = t283 then (if t280 = t282 then (if t285 = t287 then (if t284 = t286 then (if t291 = t293 then (if t290 = t292 then (if t296 = t300 then ((laws_f6ints.f k t295 t299).bind fun t313 => (if t313 = true then (if t306 = bt307.2 then (if t305 = bt307.1 then (if bt309.2 = bt311.2 then (laws_FnCalendars.j0 k t281 t282 t286 t288 t289 t291 t292 t294 t296 t299 bt311.1 (bt309.1 != bt311.1)) else (laws_FnCalendars.j0 k t281 t282 t286 t288 t289 t291 t292 t294 t296 t299 bt311.1 true)) else (laws_FnCalendars.j0 k t281 t282 t286 t288 t289 t291 t292 t294 t296 t299 bt311.1 true)) else (laws_FnCalendars.j0 k t281 t282 t286 t288 t289 t291 t292 t294 t296 t299 bt311.1 true)) else (laws_FnCalendars.j0 k t281 t282 t286 t288 t289 t291 t292 t294 t296 t299 bt311.1 true))) else (laws_FnCalendars.j0 k t281 t282 t286 t288 t289 t291 t292 t294 t296 t299 bt311.1 true)) else (laws_FnCalendars.j0 k t281 t282 t286 t288 t289 t291 t292 t294 t296 t299 bt311.1 true)) else (laws_FnCalendars.j0 k t281 t282 t286 t288 t289 t291 t292 t294 t296 t299 bt311.1 true)) else (laws_FnCalendars.j0 k t281 t282 t286 t288 t289 t291 t292 t294 t296 t299 bt311.1 true)) else (laws_FnCalendars.j0 k t281 t282 t286 t288 t289 t291 t292 t294 t296 t299 bt311.1 true)) else (laws_FnCalendars.j0 k t281 t282 t286 t288 t289 t291 t292 t294 t296 t299 bt311.1 true)) else (laws_FnCalendars.j0 k t281 t282 t286 t288 t289 t291 t292 t294 t296 t299 bt311.1 true))))) = some r := H
    have A16 := Aside0.mk A160
    clear A160
    replace H := Option.bind_eq_some_iff.mp H
    obtain ⟨⟨t307, t308⟩, A170, H⟩ := H
    replace H : ((impl_RingError.f k t294).bind fun bt309 => ((spec_RingError.f k t294).bind fun bt311 => (if t281 = t283 then (if t280 = t282 then (if t285 = t287 then (if t284 = t286 then (if t291 = t293 then (if t290 = t292 then (if t296 = t300 then ((laws_f6ints.f k t295 t299).bind fun t313 => (if t313 = true then (if t306 = t308 then (if t305 = t307 then (if bt309.2 = bt311.2 then (laws_FnCalendars.j0 k t281 t282 t286 t288 t289 t291 t292 t294 t296 t299 bt311.1 (bt309.1 != bt311.1)) else (laws_FnCalendars.j0 k t281 t282 t286 t288 t289 t291 t292 t294 t296 t299 bt311.1 true)) else (laws_FnCalendars.j0 k t281 t282 t286 t288 t289 t291 t292 t294 t296 t299 bt311.1 true)) else (laws_FnCalendars.j0 k t281 t282 t286 t288 t289 t291 t292 t294 t296 t299 bt311.1 true)) else (laws_FnCalendars.j0 k t281 t282 t286 t288 t289 t291 t292 t294 t296 t299 bt311.1 true))) else (laws_FnCalendars.j0 k t281 t282 t286 t288 t289 t291 t292 t294 t296 t299 bt311.1 true)) else (laws_FnCalendars.j0 k t281 t282 t286 t288 t289 t291 t292 t294 t296 t299 bt311.1 true)) else (laws_FnCalendars.j0 k t281 t282 t286 t288 t289 t291 t292 t294 t296 t299 bt311.1 true)) else (laws_FnCalendars.j0 k t281 t282 t286 t288 t289 t291 t292 t294 t296 t299 bt311.1 true)) else (laws_FnCalendars.j0 k t281 t282 t286 t288 t289 t291 t292 t294 t296 t299 bt311.1 true)) else (laws_FnCalendars.j0 k t281 t282 t286 t288 t289 t291 t292 t294 t296 t299 bt311.1 true)) else (laws_FnCalendars.j0 k t281 t282 t286 t288 t289 t291 t292 t294 t296 t299 bt311.1 true)))) = some r := H
    have A17 := Aside0.mk A170
    clear A170
    replace H := Option.bind_eq_some_iff.mp H
    obtain ⟨⟨t309, t310⟩, A180, H⟩ := H
    replace H : ((spec_RingError.f k t294).bind fun bt311 => (if t281 = t283 then (if t280 = t282 then (if t285 = t287 then (if t284 = t286 then (if t291 = t293 then (if t290 = t292 then (if t296 = t300 then ((laws_f6ints.f k t295 t299).bind fun t313 => (if t313 = true then (if t306 = t308 then (if t305 = t307 then (if t310 = bt311.2 then (laws_FnCalendars.j0 k t281 t282 t286 t288 t289 t291 t292 t294 t296 t299 bt311.1 (t309 != bt311.1)) else (laws_FnCalendars.j0 k t281 t282 t286 t288 t289 t291 t292 t294 t296 t299 bt311.1 true)) else (laws_FnCalendars.j0 k t281 t282 t286 t288 t289 t291 t292 t294 t296 t299 bt311.1 true)) else (laws_FnCalendars.j0 k t281 t282 t286 t288 t289 t291 t292 t294 t296 t299 bt311.1 true)) else (laws_FnCalendars.j0 k t281 t282 t286 t288 t289 t291 t292 t294 t296 t299 bt311.1 true))) else (laws_FnCalendars.j0 k t281 t282 t286 t288 t289 t291 t292 t294 t296 t299 bt311.1 true)) else (laws_FnCalendars.j0 k t281 t282 t286 t288 t289 t291 t292 t294 t296 t299 bt311.1 true)) else (laws_FnCalendars.j0 k t281 t282 t286 t288 t289 t291 t292 t294 t296 t299 bt311.1 true)) else (laws_FnCalendars.j0 k t281 t282 t286 t288 t289 t291 t292 t294 t296 t299 bt311.1 true)) else (laws_FnCalendars.j0 k t281 t282 t286 t288 t289 t291 t292 t294 t296 t299 bt311.1 true)) else (laws_FnCalendars.j0 k t281 t282 t286 t288 t289 t291 t292 t294 t296 t299 bt311.1 true)) else (laws_FnCalendars.j0 k t281 t282 t286 t288 t289 t291 t292 t294 t296 t299 bt311.1 true))) = some r := H
    have A18 := Aside0.mk A180
    clear A180
    replace H := Option.bind_eq_some_iff.mp H
    obtain ⟨⟨t311, t312⟩, A190, H⟩ := H
    replace H : (if t281 = t283 then (if t280 = t282 then (if t285 = t287 then (if t284 = t286 then (if t291 = t293 then (if t290 = t292 then (if t296 = t300 then ((laws_f6ints.f k t295 t299).bind fun t313 => (if t313 = true then (if t306 = t308 then (if t305 = t307 then (if t310 = t312 then (laws_FnCalendars.j0 k t281 t282 t286 t288 t289 t291 t292 t294 t296 t299 t311 (t309 != t311)) else (laws_FnCalendars.j0 k t281 t282 t286 t288 t289 t291 t292 t294 t296 t299 t311 true)) else (laws_FnCalendars.j0 k t281 t282 t286 t288 t289 t291 t292 t294 t296 t299 t311 true)) else (laws_FnCalendars.j0 k t281 t282 t286 t288 t289 t291 t292 t294 t296 t299 t311 true)) else (laws_FnCalendars.j0 k t281 t282 t286 t288 t289 t291 t292 t294 t296 t299 t311 true))) else (laws_FnCalendars.j0 k t281 t282 t286 t288 t289 t291 t292 t294 t296 t299 t311 true)) else (laws_FnCalendars.j0 k t281 t282 t286 t288 t289 t291 t292 t294 t296 t299 t311 true)) else (laws_FnCalendars.j0 k t281 t282 t286 t288 t289 t291 t292 t294 t296 t299 t311 true)) else (laws_FnCalendars.j0 k t281 t282 t286 t288 t289 t291 t292 t294 t296 t299 t311 true)) else (laws_FnCalendars.j0 k t281 t282 t286 t288 t289 t291 t292 t294 t296 t299 t311 true)) else (laws_FnCalendars.j0 k t281 t282 t286 t288 t289 t291 t292 t294 t296 t299 t311 true)) else (laws_FnCalendars.j0 k t281 t282 t286 t288 t289 t291 t292 t294 t296 t299 t311 true)) = some r := H
    have A19 := Aside0.mk A190
    clear A190
    have HC20 := Aside0.mk H
    clear H
    go_enter Try.func9, Try.ntmps9
    go_upto_region 19 with (first | (go_at_call 30; (with_reducible refine (laws_f6big.calls _ _ l0 false _ ?side1 ?side2 A2.out).mono ?_); (case side1 => repeat (first | exact HR0.out | (with_reducible refine Kd.C_alloc ?_ _) | (with_reducible refine Kd.C_drewN ?_ _) | (with_reducible refine Kd.C_drew ?_))); (case side2 => exact HC0.out); rintro e w' ⟨rfl, ⟨nd, rfl⟩⟩; (try first | exact ⟨rfl, _, World.drewN_drewN _ _ _⟩ | exact ⟨rfl, _, Eq.trans (World.drewN_drewN _ _ _) (congrArg (World.drewN _) (Nat.add_assoc _ _ _))⟩)) | (go_at_call 31; (with_reducible refine (spec_DrawSunOn.calls k _ _ l0 t278 t279 _ ?side1 ?side2 A4.out).mono ?_); (case side1 => repeat (first | exact HR0.out | (with_reducible refine Kd.C_alloc ?_ _) | (with_reducible refine Kd.C_drewN ?_ _) | (with_reducible refine Kd.C_drew ?_))); (case side2 => exact HC0.out); rintro e w21 ⟨rfl, hb⟩; have n0_ := Aside0.mk (below_step (by repeat (first | (with_reducible first | exact HB.out | apply below_alloc | apply pw_below_drewN | apply below_drew1) | exact HB.out)) hb); clear HB; have HB := n0_; clear n0_; (try clear hb); (try clear hb2); (try clear hk); (try clear hi)) | (go_at_call 16; (with_reducible refine (impl_SunOn.calls t278 t279 t280 t281 _ A5.out).mono ?_); rintro e w' ⟨rfl, ⟨nd, rfl⟩⟩; (try first | exact ⟨rfl, _, World.drewN_drewN _ _ _⟩ | exact ⟨rfl, _, Eq.trans (World.drewN_drewN _ _ _) (congrArg (World.drewN _) (Nat.add_assoc _ _ _))⟩)) | (go_at_call 15; (with_reducible refine (spec_SunOn.calls t278 t279 t282 t283 _ A6.out).mono ?_); rintro e w' ⟨rfl, ⟨nd, rfl⟩⟩; (try first | exact ⟨rfl, _, World.drewN_drewN _ _ _⟩ | exact ⟨rfl, _, Eq.trans (World.drewN_drewN _ _ _) (congrArg (World.drewN _) (Nat.add_assoc _ _ _))⟩)) | (go_at_call 20; (with_reducible refine (impl_SignOf.calls t278 t279 t284 t285 _ A7.out).mono ?_); rintro e w' ⟨rfl, ⟨nd, rfl⟩⟩; (try first | exact ⟨rfl, _, World.drewN_drewN _ _ _⟩ | exact ⟨rfl, _, Eq.trans (World.drewN_drewN _ _ _) (congrArg (World.drewN _) (Nat.add_assoc _ _ _))⟩)) | (go_at_call 19; (with_reducible refine (spec_SignOf.calls t278 t279 t286 t287 _ A8.out).mono ?_); rintro e w' ⟨rfl, ⟨nd, rfl⟩⟩; (try first | exact ⟨rfl, _, World.drewN_drewN _ _ _⟩ | exact ⟨rfl, _, Eq.trans (World.drewN_drewN _ _ _) (congrArg (World.drewN _) (Nat.add_assoc _ _ _))⟩)) | (go_at_call 32; (with_reducible refine (spec_DrawDayOfSun.calls k _ _ l0 t288 t289 _ ?side1 ?side2 A9.out).mono ?_); (case side1 => repeat (first | exact (Kd.C_below HR0.out (by repeat (first | (with_reducible first | exact HB.out | apply below_alloc | apply pw_below_drewN | apply below_drew1) | exact HB.out))) | (with_reducible refine Kd.C_alloc ?_ _) | (with_reducible refine Kd.C_drewN ?_ _) | (with_reducible refine Kd.C_drew ?_))); (case side2 => exact HC0.out); rintro e w22 ⟨rfl, hb⟩; have n0_ := Aside0.mk (below_step (by repeat (first | (with_reducible first | exact HB.out | apply below_alloc | apply pw_below_drewN | apply below_drew1) | exact HB.out)) hb); clear HB; have HB := n0_; clear n0_; (try clear hb); (try clear hb2); (try clear hk); (try clear hi)) | (go_at_call 18; (with_reducible refine (impl_DayOfSun.calls k t288 t289 t290 t291 _ A10.out).mono ?_); rintro e w' ⟨rfl, ⟨nd, rfl⟩⟩; (try first | exact ⟨rfl, _, World.drewN_drewN _ _ _⟩ | exact ⟨rfl, _, Eq.trans (World.drewN_drewN _ _ _) (congrArg (World.drewN _) (Nat.add_assoc _ _ _))⟩)) | (go_at_call 17; (with_reducible refine (spec_DayOfSun.calls k t288 t289 t292 t293 _ A11.out).mono ?_); rintro e w' ⟨rfl, ⟨nd, rfl⟩⟩; (try first | exact ⟨rfl, _, World.drewN_drewN _ _ _⟩ | exact ⟨rfl, _, Eq.trans (World.drewN_drewN _ _ _) (congrArg (World.drewN _) (Nat.add_assoc _ _ _))⟩)) | (go_at_call 33; (with_reducible refine (spec_DrawDivisionsOf.calls _ _ l0 t294 _ ?side1 ?side2 A12.out).mono ?_); (case side1 => repeat (first | exact (Kd.C_below HR0.out (by repeat (first | (with_reducible first | exact HB.out | apply below_alloc | apply pw_below_drewN | apply below_drew1) | exact HB.out))) | (with_reducible refine Kd.C_alloc ?_ _) | (with_reducible refine Kd.C_drewN ?_ _) | (with_reducible refine Kd.C_drew ?_))); (case side2 => exact HC0.out); rintro e w23 ⟨rfl, hb⟩; have n0_ := Aside0.mk (below_step (by repeat (first | (with_reducible first | exact HB.out | apply below_alloc | apply pw_below_drewN | apply below_drew1) | exact HB.out)) hb); clear HB; have HB := n0_; clear n0_; (try clear hb); (try clear hb2); (try clear hk); (try clear hi)) | (go_at_call 26; (with_reducible refine (impl_DivisionsOf.calls k t294 t295 t296 _ A13.out).mono ?_); rintro e w24 ⟨v297, rfl, ho0, hb⟩; have n0_ := Aside0.mk (Kd.R_lower ho0 (below_size (by repeat (first | (with_reducible first | exact HB.out | apply below_alloc | apply pw_below_drewN | apply below_drew1) | exact HB.out)))); have n1_ := Aside0.mk (below_step (by repeat (first | (with_reducible first | exact HB.out | apply below_alloc | apply pw_below_drewN | apply below_drew1) | exact HB.out)) hb); clear HB; have HO298 := n0_; have HB := n1_; clear n0_ n1_; (try clear hb); (try clear hb2); (try clear hk); (try clear hi); (try clear ho0)) | (go_at_call 25; (with_reducible refine (spec_DivisionsOf.calls k t294 t299 t300 _ A14.out).mono ?_); rintro e w25 ⟨v301, rfl, ho0, hb⟩; have n0_ := Aside0.mk (Kd.R_elder' (by (with_reducible repeat (first | apply Kd.R_alloc | apply Kd.R_drewN | apply Kd.R_drew)); exact HO298.out) (Kd.R_base ho0) hb); have n1_ := Aside0.mk (Kd.R_lower (Kd.R_new' ho0 (Kd.R_lt (by (with_reducible repeat (first | apply Kd.R_alloc | apply Kd.R_drewN | apply Kd.R_drew)); exact HO298.out))) (below_size (by repeat (first | (with_reducible first | exact HB.out | apply below_alloc | apply pw_below_drewN | apply below_drew1) | exact HB.out)))); have n2_ := Aside0.mk (below_step (by repeat (first | (with_reducible first | exact HB.out | apply below_alloc | apply pw_below_drewN | apply below_drew1) | exact HB.out)) hb); clear HO298; clear HB; have HO298 := n0_; have HO302 := n1_; have HB := n2_; clear n0_ n1_ n2_; (try clear hb); (try clear hb2); (try clear hk); (try clear hi); (try clear ho0)) | (go_at_call 34; (with_reducible refine (spec_DrawNearestDivision.calls _ _ l0 t303 t304 _ ?side1 ?side2 A15.out).mono ?_); (case side1 => repeat (first | exact (Kd.C_below HR0.out HB.out) | (with_reducible refine Kd.C_alloc ?_ _) | (with_reducible refine Kd.C_drewN ?_ _) | (with_reducible refine Kd.C_drew ?_))); (case side2 => exact HC0.out); rintro e w26 ⟨rfl, hb⟩; have n0_ := Aside0.mk (Kd.R_below (by (with_reducible repeat (first | apply Kd.R_alloc | apply Kd.R_drewN | apply Kd.R_drew)); exact HO298.out) hb); have n1_ := Aside0.mk (Kd.R_below (by (with_reducible repeat (first | apply Kd.R_alloc | apply Kd.R_drewN | apply Kd.R_drew)); exact HO302.out) hb); have n2_ := Aside0.mk (below_step (by repeat (first | (with_reducible first | exact HB.out | apply below_alloc | apply pw_below_drewN | apply below_drew1) | exact HB.out)) hb); clear HO298; clear HO302; clear HB; have HO298 := n0_; have HO302 := n1_; have HB := n2_; clear n0_ n1_ n2_; (try clear hb); (try clear hb2); (try clear hk); (try clear hi)) | (go_at_call 24; (with_reducible refine (impl_NearestDivision.calls k t303 t304 t305 t306 _ A16.out).mono ?_); rintro e w27 ⟨rfl, hb⟩; have n0_ := Aside0.mk (Kd.R_below (by (with_reducible repeat (first | apply Kd.R_alloc | apply Kd.R_drewN | apply Kd.R_drew)); exact HO298.out) hb); have n1_ := Aside0.mk (Kd.R_below (by (with_reducible repeat (first | apply Kd.R_alloc | apply Kd.R_drewN | apply Kd.R_drew)); exact HO302.out) hb); have n2_ := Aside0.mk (below_step (by repeat (first | (with_reducible first | exact HB.out | apply below_alloc | apply pw_below_drewN | apply below_drew1) | exact HB.out)) hb); clear HO298; clear HO302; clear HB; have HO298 := n0_; have HO302 := n1_; have HB := n2_; clear n0_ n1_ n2_; (try clear hb); (try clear hb2); (try clear hk); (try clear hi)) | (go_at_call 23; (with_reducible refine (spec_NearestDivision.calls k t303 t304 t307 t308 _ A17.out).mono ?_); rintro e w' ⟨rfl, ⟨nd, rfl⟩⟩; (try first | exact ⟨rfl, _, World.drewN_drewN _ _ _⟩ | exact ⟨rfl, _, Eq.trans (World.drewN_drewN _ _ _) (congrArg (World.drewN _) (Nat.add_assoc _ _ _))⟩)) | (go_at_call 22; (with_reducible refine (impl_RingError.calls k t294 t309 t310 _ A18.out).mono ?_); rintro e w28 ⟨rfl, hb⟩; have n0_ := Aside0.mk (Kd.R_below (by (with_reducible repeat (first | apply Kd.R_alloc | apply Kd.R_drewN | apply Kd.R_drew)); exact HO298.out) hb); have n1_ := Aside0.mk (Kd.R_below (by (with_reducible repeat (first | apply Kd.R_alloc | apply Kd.R_drewN | apply Kd.R_drew)); exact HO302.out) hb); have n2_ := Aside0.mk (below_step (by repeat (first | (with_reducible first | exact HB.out | apply below_alloc | apply pw_below_drewN | apply below_drew1) | exact HB.out)) hb); clear HO298; clear HO302; clear HB; have HO298 := n0_; have HO302 := n1_; have HB := n2_; clear n0_ n1_ n2_; (try clear hb); (try clear hb2); (try clear hk); (try clear hi)) | (go_at_call 21; (with_reducible refine (spec_RingError.calls k t294 t311 t312 _ A19.out).mono ?_); rintro e w' ⟨rfl, ⟨nd, rfl⟩⟩; (try first | exact ⟨rfl, _, World.drewN_drewN _ _ _⟩ | exact ⟨rfl, _, Eq.trans (World.drewN_drewN _ _ _) (congrArg (World.drewN _) (Nat.add_assoc _ _ _))⟩)))
    repeat (go_quiet (first | (go_at_call 30; (with_reducible refine (laws_f6big.calls _ _ l0 false _ ?side1 ?side2 A2.out).mono ?_); (case side1 => repeat (first | exact HR0.out | (with_reducible refine Kd.C_alloc ?_ _) | (with_reducible refine Kd.C_drewN ?_ _) | (with_reducible refine Kd.C_drew ?_))); (case side2 => exact HC0.out); rintro e w' ⟨rfl, ⟨nd, rfl⟩⟩; (try first | exact ⟨rfl, _, World.drewN_drewN _ _ _⟩ | exact ⟨rfl, _, Eq.trans (World.drewN_drewN _ _ _) (congrArg (World.drewN _) (Nat.add_assoc _ _ _))⟩)) | (go_at_call 31; (with_reducible refine (spec_DrawSunOn.calls k _ _ l0 t278 t279 _ ?side1 ?side2 A4.out).mono ?_); (case side1 => repeat (first | exact HR0.out | (with_reducible refine Kd.C_alloc ?_ _) | (with_reducible refine Kd.C_drewN ?_ _) | (with_reducible refine Kd.C_drew ?_))); (case side2 => exact HC0.out); rintro e w21 ⟨rfl, hb⟩; have n0_ := Aside0.mk (below_step (by repeat (first | (with_reducible first | exact HB.out | apply below_alloc | apply pw_below_drewN | apply below_drew1) | exact HB.out)) hb); clear HB; have HB := n0_; clear n0_; (try clear hb); (try clear hb2); (try clear hk); (try clear hi)) | (go_at_call 16; (with_reducible refine (impl_SunOn.calls t278 t279 t280 t281 _ A5.out).mono ?_); rintro e w' ⟨rfl, ⟨nd, rfl⟩⟩; (try first | exact ⟨rfl, _, World.drewN_drewN _ _ _⟩ | exact ⟨rfl, _, Eq.trans (World.drewN_drewN _ _ _) (congrArg (World.drewN _) (Nat.add_assoc _ _ _))⟩)) | (go_at_call 15; (with_reducible refine (spec_SunOn.calls t278 t279 t282 t283 _ A6.out).mono ?_); rintro e w' ⟨rfl, ⟨nd, rfl⟩⟩; (try first | exact ⟨rfl, _, World.drewN_drewN _ _ _⟩ | exact ⟨rfl, _, Eq.trans (World.drewN_drewN _ _ _) (congrArg (World.drewN _) (Nat.add_assoc _ _ _))⟩)) | (go_at_call 20; (with_reducible refine (impl_SignOf.calls t278 t279 t284 t285 _ A7.out).mono ?_); rintro e w' ⟨rfl, ⟨nd, rfl⟩⟩; (try first | exact ⟨rfl, _, World.drewN_drewN _ _ _⟩ | exact ⟨rfl, _, Eq.trans (World.drewN_drewN _ _ _) (congrArg (World.drewN _) (Nat.add_assoc _ _ _))⟩)) | (go_at_call 19; (with_reducible refine (spec_SignOf.calls t278 t279 t286 t287 _ A8.out).mono ?_); rintro e w' ⟨rfl, ⟨nd, rfl⟩⟩; (try first | exact ⟨rfl, _, World.drewN_drewN _ _ _⟩ | exact ⟨rfl, _, Eq.trans (World.drewN_drewN _ _ _) (congrArg (World.drewN _) (Nat.add_assoc _ _ _))⟩)) | (go_at_call 32; (with_reducible refine (spec_DrawDayOfSun.calls k _ _ l0 t288 t289 _ ?side1 ?side2 A9.out).mono ?_); (case side1 => repeat (first | exact (Kd.C_below HR0.out (by repeat (first | (with_reducible first | exact HB.out | apply below_alloc | apply pw_below_drewN | apply below_drew1) | exact HB.out))) | (with_reducible refine Kd.C_alloc ?_ _) | (with_reducible refine Kd.C_drewN ?_ _) | (with_reducible refine Kd.C_drew ?_))); (case side2 => exact HC0.out); rintro e w22 ⟨rfl, hb⟩; have n0_ := Aside0.mk (below_step (by repeat (first | (with_reducible first | exact HB.out | apply below_alloc | apply pw_below_drewN | apply below_drew1) | exact HB.out)) hb); clear HB; have HB := n0_; clear n0_; (try clear hb); (try clear hb2); (try clear hk); (try clear hi)) | (go_at_call 18; (with_reducible refine (impl_DayOfSun.calls k t288 t289 t290 t291 _ A10.out).mono ?_); rintro e w' ⟨rfl, ⟨nd, rfl⟩⟩; (try first | exact ⟨rfl, _, World.drewN_drewN _ _ _⟩ | exact ⟨rfl, _, Eq.trans (World.drewN_drewN _ _ _) (congrArg (World.drewN _) (Nat.add_assoc _ _ _))⟩)) | (go_at_call 17; (with_reducible refine (spec_DayOfSun.calls k t288 t289 t292 t293 _ A11.out).mono ?_); rintro e w' ⟨rfl, ⟨nd, rfl⟩⟩; (try first | exact ⟨rfl, _, World.drewN_drewN _ _ _⟩ | exact ⟨rfl, _, Eq.trans (World.drewN_drewN _ _ _) (congrArg (World.drewN _) (Nat.add_assoc _ _ _))⟩)) | (go_at_call 33; (with_reducible refine (spec_DrawDivisionsOf.calls _ _ l0 t294 _ ?side1 ?side2 A12.out).mono ?_); (case side1 => repeat (first | exact (Kd.C_below HR0.out (by repeat (first | (with_reducible first | exact HB.out | apply below_alloc | apply pw_below_drewN | apply below_drew1) | exact HB.out))) | (with_reducible refine Kd.C_alloc ?_ _) | (with_reducible refine Kd.C_drewN ?_ _) | (with_reducible refine Kd.C_drew ?_))); (case side2 => exact HC0.out); rintro e w23 ⟨rfl, hb⟩; have n0_ := Aside0.mk (below_step (by repeat (first | (with_reducible first | exact HB.out | apply below_alloc | apply pw_below_drewN | apply below_drew1) | exact HB.out)) hb); clear HB; have HB := n0_; clear n0_; (try clear hb); (try clear hb2); (try clear hk); (try clear hi)) | (go_at_call 26; (with_reducible refine (impl_DivisionsOf.calls k t294 t295 t296 _ A13.out).mono ?_); rintro e w24 ⟨v297, rfl, ho0, hb⟩; have n0_ := Aside0.mk (Kd.R_lower ho0 (below_size (by repeat (first | (with_reducible first | exact HB.out | apply below_alloc | apply pw_below_drewN | apply below_drew1) | exact HB.out)))); have n1_ := Aside0.mk (below_step (by repeat (first | (with_reducible first | exact HB.out | apply below_alloc | apply pw_below_drewN | apply below_drew1) | exact HB.out)) hb); clear HB; have HO298 := n0_; have HB := n1_; clear n0_ n1_; (try clear hb); (try clear hb2); (try clear hk); (try clear hi); (try clear ho0)) | (go_at_call 25; (with_reducible refine (spec_DivisionsOf.calls k t294 t299 t300 _ A14.out).mono ?_); rintro e w25 ⟨v301, rfl, ho0, hb⟩; have n0_ := Aside0.mk (Kd.R_elder' (by (with_reducible repeat (first | apply Kd.R_alloc | apply Kd.R_drewN | apply Kd.R_drew)); exact HO298.out) (Kd.R_base ho0) hb); have n1_ := Aside0.mk (Kd.R_lower (Kd.R_new' ho0 (Kd.R_lt (by (with_reducible repeat (first | apply Kd.R_alloc | apply Kd.R_drewN | apply Kd.R_drew)); exact HO298.out))) (below_size (by repeat (first | (with_reducible first | exact HB.out | apply below_alloc | apply pw_below_drewN | apply below_drew1) | exact HB.out)))); have n2_ := Aside0.mk (below_step (by repeat (first | (with_reducible first | exact HB.out | apply below_alloc | apply pw_below_drewN | apply below_drew1) | exact HB.out)) hb); clear HO298; clear HB; have HO298 := n0_; have HO302 := n1_; have HB := n2_; clear n0_ n1_ n2_; (try clear hb); (try clear hb2); (try clear hk); (try clear hi); (try clear ho0)) | (go_at_call 34; (with_reducible refine (spec_DrawNearestDivision.calls _ _ l0 t303 t304 _ ?side1 ?side2 A15.out).mono ?_); (case side1 => repeat (first | exact (Kd.C_below HR0.out HB.out) | (with_reducible refine Kd.C_alloc ?_ _) | (with_reducible refine Kd.C_drewN ?_ _) | (with_reducible refine Kd.C_drew ?_))); (case side2 => exact HC0.out); rintro e w26 ⟨rfl, hb⟩; have n0_ := Aside0.mk (Kd.R_below (by (with_reducible repeat (first | apply Kd.R_alloc | apply Kd.R_drewN | apply Kd.R_drew)); exact HO298.out) hb); have n1_ := Aside0.mk (Kd.R_below (by (with_reducible repeat (first | apply Kd.R_alloc | apply Kd.R_drewN | apply Kd.R_drew)); exact HO302.out) hb); have n2_ := Aside0.mk (below_step (by repeat (first | (with_reducible first | exact HB.out | apply below_alloc | apply pw_below_drewN | apply below_drew1) | exact HB.out)) hb); clear HO298; clear HO302; clear HB; have HO298 := n0_; have HO302 := n1_; have HB := n2_; clear n0_ n1_ n2_; (try clear hb); (try clear hb2); (try clear hk); (try clear hi)) | (go_at_call 24; (with_reducible refine (impl_NearestDivision.calls k t303 t304 t305 t306 _ A16.out).mono ?_); rintro e w27 ⟨rfl, hb⟩; have n0_ := Aside0.mk (Kd.R_below (by (with_reducible repeat (first | apply Kd.R_alloc | apply Kd.R_drewN | apply Kd.R_drew)); exact HO298.out) hb); have n1_ := Aside0.mk (Kd.R_below (by (with_reducible repeat (first | apply Kd.R_alloc | apply Kd.R_drewN | apply Kd.R_drew)); exact HO302.out) hb); have n2_ := Aside0.mk (below_step (by repeat (first | (with_reducible first | exact HB.out | apply below_alloc | apply pw_below_drewN | apply below_drew1) | exact HB.out)) hb); clear HO298; clear HO302; clear HB; have HO298 := n0_; have HO302 := n1_; have HB := n2_; clear n0_ n1_ n2_; (try clear hb); (try clear hb2); (try clear hk); (try clear hi)) | (go_at_call 23; (with_reducible refine (spec_NearestDivision.calls k t303 t304 t307 t308 _ A17.out).mono ?_); rintro e w' ⟨rfl, ⟨nd, rfl⟩⟩; (try first | exact ⟨rfl, _, World.drewN_drewN _ _ _⟩ | exact ⟨rfl, _, Eq.trans (World.drewN_drewN _ _ _) (congrArg (World.drewN _) (Nat.add_assoc _ _ _))⟩)) | (go_at_call 22; (with_reducible refine (impl_RingError.calls k t294 t309 t310 _ A18.out).mono ?_); rintro e w28 ⟨rfl, hb⟩; have n0_ := Aside0.mk (Kd.R_below (by (with_reducible repeat (first | apply Kd.R_alloc | apply Kd.R_drewN | apply Kd.R_drew)); exact HO298.out) hb); have n1_ := Aside0.mk (Kd.R_below (by (with_reducible repeat (first | apply Kd.R_alloc | apply Kd.R_drewN | apply Kd.R_drew)); exact HO302.out) hb); have n2_ := Aside0.mk (below_step (by repeat (first | (with_reducible first | exact HB.out | apply below_alloc | apply pw_below_drewN | apply below_drew1) | exact HB.out)) hb); clear HO298; clear HO302; clear HB; have HO298 := n0_; have HO302 := n1_; have HB := n2_; clear n0_ n1_ n2_; (try clear hb); (try clear hb2); (try clear hk); (try clear hi)) | (go_at_call 21; (with_reducible refine (spec_RingError.calls k t294 t311 t312 _ A19.out).mono ?_); rintro e w' ⟨rfl, ⟨nd, rfl⟩⟩; (try first | exact ⟨rfl, _, World.drewN_drewN _ _ _⟩ | exact ⟨rfl, _, Eq.trans (World.drewN_drewN _ _ _) (congrArg (World.drewN _) (Nat.add_assoc _ _ _))⟩))); go_upto_region 19 with (first | (go_at_call 30; (with_reducible refine (laws_f6big.calls _ _ l0 false _ ?side1 ?side2 A2.out).mono ?_); (case side1 => repeat (first | exact HR0.out | (with_reducible refine Kd.C_alloc ?_ _) | (with_reducible refine Kd.C_drewN ?_ _) | (with_reducible refine Kd.C_drew ?_))); (case side2 => exact HC0.out); rintro e w' ⟨rfl, ⟨nd, rfl⟩⟩; (try first | exact ⟨rfl, _, World.drewN_drewN _ _ _⟩ | exact ⟨rfl, _, Eq.trans (World.drewN_drewN _ _ _) (congrArg (World.drewN _) (Nat.add_assoc _ _ _))⟩)) | (go_at_call 31; (with_reducible refine (spec_DrawSunOn.calls k _ _ l0 t278 t279 _ ?side1 ?side2 A4.out).mono ?_); (case side1 => repeat (first | exact HR0.out | (with_reducible refine Kd.C_alloc ?_ _) | (with_reducible refine Kd.C_drewN ?_ _) | (with_reducible refine Kd.C_drew ?_))); (case side2 => exact HC0.out); rintro e w21 ⟨rfl, hb⟩; have n0_ := Aside0.mk (below_step (by repeat (first | (with_reducible first | exact HB.out | apply below_alloc | apply pw_below_drewN | apply below_drew1) | exact HB.out)) hb); clear HB; have HB := n0_; clear n0_; (try clear hb); (try clear hb2); (try clear hk); (try clear hi)) | (go_at_call 16; (with_reducible refine (impl_SunOn.calls t278 t279 t280 t281 _ A5.out).mono ?_); rintro e w' ⟨rfl, ⟨nd, rfl⟩⟩; (try first | exact ⟨rfl, _, World.drewN_drewN _ _ _⟩ | exact ⟨rfl, _, Eq.trans (World.drewN_drewN _ _ _) (congrArg (World.drewN _) (Nat.add_assoc _ _ _))⟩)) | (go_at_call 15; (with_reducible refine (spec_SunOn.calls t278 t279 t282 t283 _ A6.out).mono ?_); rintro e w' ⟨rfl, ⟨nd, rfl⟩⟩; (try first | exact ⟨rfl, _, World.drewN_drewN _ _ _⟩ | exact ⟨rfl, _, Eq.trans (World.drewN_drewN _ _ _) (congrArg (World.drewN _) (Nat.add_assoc _ _ _))⟩)) | (go_at_call 20; (with_reducible refine (impl_SignOf.calls t278 t279 t284 t285 _ A7.out).mono ?_); rintro e w' ⟨rfl, ⟨nd, rfl⟩⟩; (try first | exact ⟨rfl, _, World.drewN_drewN _ _ _⟩ | exact ⟨rfl, _, Eq.trans (World.drewN_drewN _ _ _) (congrArg (World.drewN _) (Nat.add_assoc _ _ _))⟩)) | (go_at_call 19; (with_reducible refine (spec_SignOf.calls t278 t279 t286 t287 _ A8.out).mono ?_); rintro e w' ⟨rfl, ⟨nd, rfl⟩⟩; (try first | exact ⟨rfl, _, World.drewN_drewN _ _ _⟩ | exact ⟨rfl, _, Eq.trans (World.drewN_drewN _ _ _) (congrArg (World.drewN _) (Nat.add_assoc _ _ _))⟩)) | (go_at_call 32; (with_reducible refine (spec_DrawDayOfSun.calls k _ _ l0 t288 t289 _ ?side1 ?side2 A9.out).mono ?_); (case side1 => repeat (first | exact (Kd.C_below HR0.out (by repeat (first | (with_reducible first | exact HB.out | apply below_alloc | apply pw_below_drewN | apply below_drew1) | exact HB.out))) | (with_reducible refine Kd.C_alloc ?_ _) | (with_reducible refine Kd.C_drewN ?_ _) | (with_reducible refine Kd.C_drew ?_))); (case side2 => exact HC0.out); rintro e w22 ⟨rfl, hb⟩; have n0_ := Aside0.mk (below_step (by repeat (first | (with_reducible first | exact HB.out | apply below_alloc | apply pw_below_drewN | apply below_drew1) | exact HB.out)) hb); clear HB; have HB := n0_; clear n0_; (try clear hb); (try clear hb2); (try clear hk); (try clear hi)) | (go_at_call 18; (with_reducible refine (impl_DayOfSun.calls k t288 t289 t290 t291 _ A10.out).mono ?_); rintro e w' ⟨rfl, ⟨nd, rfl⟩⟩; (try first | exact ⟨rfl, _, World.drewN_drewN _ _ _⟩ | exact ⟨rfl, _, Eq.trans (World.drewN_drewN _ _ _) (congrArg (World.drewN _) (Nat.add_assoc _ _ _))⟩)) | (go_at_call 17; (with_reducible refine (spec_DayOfSun.calls k t288 t289 t292 t293 _ A11.out).mono ?_); rintro e w' ⟨rfl, ⟨nd, rfl⟩⟩; (try first | exact ⟨rfl, _, World.drewN_drewN _ _ _⟩ | exact ⟨rfl, _, Eq.trans (World.drewN_drewN _ _ _) (congrArg (World.drewN _) (Nat.add_assoc _ _ _))⟩)) | (go_at_call 33; (with_reducible refine (spec_DrawDivisionsOf.calls _ _ l0 t294 _ ?side1 ?side2 A12.out).mono ?_); (case side1 => repeat (first | exact (Kd.C_below HR0.out (by repeat (first | (with_reducible first | exact HB.out | apply below_alloc | apply pw_below_drewN | apply below_drew1) | exact HB.out))) | (with_reducible refine Kd.C_alloc ?_ _) | (with_reducible refine Kd.C_drewN ?_ _) | (with_reducible refine Kd.C_drew ?_))); (case side2 => exact HC0.out); rintro e w23 ⟨rfl, hb⟩; have n0_ := Aside0.mk (below_step (by repeat (first | (with_reducible first | exact HB.out | apply below_alloc | apply pw_below_drewN | apply below_drew1) | exact HB.out)) hb); clear HB; have HB := n0_; clear n0_; (try clear hb); (try clear hb2); (try clear hk); (try clear hi)) | (go_at_call 26; (with_reducible refine (impl_DivisionsOf.calls k t294 t295 t296 _ A13.out).mono ?_); rintro e w24 ⟨v297, rfl, ho0, hb⟩; have n0_ := Aside0.mk (Kd.R_lower ho0 (below_size (by repeat (first | (with_reducible first | exact HB.out | apply below_alloc | apply pw_below_drewN | apply below_drew1) | exact HB.out)))); have n1_ := Aside0.mk (below_step (by repeat (first | (with_reducible first | exact HB.out | apply below_alloc | apply pw_below_drewN | apply below_drew1) | exact HB.out)) hb); clear HB; have HO298 := n0_; have HB := n1_; clear n0_ n1_; (try clear hb); (try clear hb2); (try clear hk); (try clear hi); (try clear ho0)) | (go_at_call 25; (with_reducible refine (spec_DivisionsOf.calls k t294 t299 t300 _ A14.out).mono ?_); rintro e w25 ⟨v301, rfl, ho0, hb⟩; have n0_ := Aside0.mk (Kd.R_elder' (by (with_reducible repeat (first | apply Kd.R_alloc | apply Kd.R_drewN | apply Kd.R_drew)); exact HO298.out) (Kd.R_base ho0) hb); have n1_ := Aside0.mk (Kd.R_lower (Kd.R_new' ho0 (Kd.R_lt (by (with_reducible repeat (first | apply Kd.R_alloc | apply Kd.R_drewN | apply Kd.R_drew)); exact HO298.out))) (below_size (by repeat (first | (with_reducible first | exact HB.out | apply below_alloc | apply pw_below_drewN | apply below_drew1) | exact HB.out)))); have n2_ := Aside0.mk (below_step (by repeat (first | (with_reducible first | exact HB.out | apply below_alloc | apply pw_below_drewN | apply below_drew1) | exact HB.out)) hb); clear HO298; clear HB; have HO298 := n0_; have HO302 := n1_; have HB := n2_; clear n0_ n1_ n2_; (try clear hb); (try clear hb2); (try clear hk); (try clear hi); (try clear ho0)) | (go_at_call 34; (with_reducible refine (spec_DrawNearestDivision.calls _ _ l0 t303 t304 _ ?side1 ?side2 A15.out).mono ?_); (case side1 => repeat (first | exact (Kd.C_below HR0.out HB.out) | (with_reducible refine Kd.C_alloc ?_ _) | (with_reducible refine Kd.C_drewN ?_ _) | (with_reducible refine Kd.C_drew ?_))); (case side2 => exact HC0.out); rintro e w26 ⟨rfl, hb⟩; have n0_ := Aside0.mk (Kd.R_below (by (with_reducible repeat (first | apply Kd.R_alloc | apply Kd.R_drewN | apply Kd.R_drew)); exact HO298.out) hb); have n1_ := Aside0.mk (Kd.R_below (by (with_reducible repeat (first | apply Kd.R_alloc | apply Kd.R_drewN | apply Kd.R_drew)); exact HO302.out) hb); have n2_ := Aside0.mk (below_step (by repeat (first | (with_reducible first | exact HB.out | apply below_alloc | apply pw_below_drewN | apply below_drew1) | exact HB.out)) hb); clear HO298; clear HO302; clear HB; have HO298 := n0_; have HO302 := n1_; have HB := n2_; clear n0_ n1_ n2_; (try clear hb); (try clear hb2); (try clear hk); (try clear hi)) | (go_at_call 24; (with_reducible refine (impl_NearestDivision.calls k t303 t304 t305 t306 _ A16.out).mono ?_); rintro e w27 ⟨rfl, hb⟩; have n0_ := Aside0.mk (Kd.R_below (by (with_reducible repeat (first | apply Kd.R_alloc | apply Kd.R_drewN | apply Kd.R_drew)); exact HO298.out) hb); have n1_ := Aside0.mk (Kd.R_below (by (with_reducible repeat (first | apply Kd.R_alloc | apply Kd.R_drewN | apply Kd.R_drew)); exact HO302.out) hb); have n2_ := Aside0.mk (below_step (by repeat (first | (with_reducible first | exact HB.out | apply below_alloc | apply pw_below_drewN | apply below_drew1) | exact HB.out)) hb); clear HO298; clear HO302; clear HB; have HO298 := n0_; have HO302 := n1_; have HB := n2_; clear n0_ n1_ n2_; (try clear hb); (try clear hb2); (try clear hk); (try clear hi)) | (go_at_call 23; (with_reducible refine (spec_NearestDivision.calls k t303 t304 t307 t308 _ A17.out).mono ?_); rintro e w' ⟨rfl, ⟨nd, rfl⟩⟩; (try first | exact ⟨rfl, _, World.drewN_drewN _ _ _⟩ | exact ⟨rfl, _, Eq.trans (World.drewN_drewN _ _ _) (congrArg (World.drewN _) (Nat.add_assoc _ _ _))⟩)) | (go_at_call 22; (with_reducible refine (impl_RingError.calls k t294 t309 t310 _ A18.out).mono ?_); rintro e w28 ⟨rfl, hb⟩; have n0_ := Aside0.mk (Kd.R_below (by (with_reducible repeat (first | apply Kd.R_alloc | apply Kd.R_drewN | apply Kd.R_drew)); exact HO298.out) hb); have n1_ := Aside0.mk (Kd.R_below (by (with_reducible repeat (first | apply Kd.R_alloc | apply Kd.R_drewN | apply Kd.R_drew)); exact HO302.out) hb); have n2_ := Aside0.mk (below_step (by repeat (first | (with_reducible first | exact HB.out | apply below_alloc | apply pw_below_drewN | apply below_drew1) | exact HB.out)) hb); clear HO298; clear HO302; clear HB; have HO298 := n0_; have HO302 := n1_; have HB := n2_; clear n0_ n1_ n2_; (try clear hb); (try clear hb2); (try clear hk); (try clear hi)) | (go_at_call 21; (with_reducible refine (spec_RingError.calls k t294 t311 t312 _ A19.out).mono ?_); rintro e w' ⟨rfl, ⟨nd, rfl⟩⟩; (try first | exact ⟨rfl, _, World.drewN_drewN _ _ _⟩ | exact ⟨rfl, _, Eq.trans (World.drewN_drewN _ _ _) (congrArg (World.drewN _) (Nat.add_assoc _ _ _))⟩))))
    (try simp only [Act.put, List.setIfInBounds_toArray, List.set_cons_zero, List.set_cons_succ])
    go_cut [184] (fun v184 wc => ∃ (kq : Nat) (x184_19 : Bool), v184 = .bool x184_19 ∧ Aside0 (laws_FnCalendars.j0 kq t281 t282 t286 t288 t289 t291 t292 t294 t296 t299 t311 x184_19 = some r) ∧ Aside0 (kq ≤ k) ∧ Aside0 (Kd.R (Kd.int .i64) 2 wc w.heap.size (fun _ => True) v301 t299) ∧ Aside0 (Below w.heap.size w wc))
    case first => as_aux_lemma =>
      have H := HC20.out
      clear HC20
      by_cases c29 : t281 = t283
      · rw [if_pos c29] at H
        have c29b0 : (t281 == t283) = true := beq_iff_eq.mpr c29
        have c29b1 : (t281 != t283) = false := bne_eq_false_iff_eq.mpr c29
        clear c29
        (first | rw [c29b0] | (simp only [i64_w, i32_w]; rw [c29b0]) | skip)
        by_cases c30 : t280 = t282
        · rw [if_pos c30] at H
          have c30b0 : (t280 == t282) = true := beq_iff_eq.mpr c30
          have c30b1 : (t280 != t282) = false := bne_eq_false_iff_eq.mpr c30
          clear c30
          by_cases c31 : t285 = t287
          · rw [if_pos c31] at H
            have c31b0 : (t285 == t287) = true := beq_iff_eq.mpr c31
            have c31b1 : (t285 != t287) = false := bne_eq_false_iff_eq.mpr c31
            clear c31
            by_cases c32 : t284 = t286
            · rw [if_pos c32] at H
              have c32b0 : (t284 == t286) = true := beq_iff_eq.mpr c32
              have c32b1 : (t284 != t286) = false := bne_eq_false_iff_eq.mpr c32
              clear c32
              by_cases c33 : t291 = t293
              · rw [if_pos c33] at H
                have c33b0 : (t291 == t293) = true := beq_iff_eq.mpr c33
                have c33b1 : (t291 != t293) = false := bne_eq_false_iff_eq.mpr c33
                clear c33
                by_cases c34 : t290 = t292
                · rw [if_pos c34] at H
                  have c34b0 : (t290 == t292) = true := beq_iff_eq.mpr c34
                  have c34b1 : (t290 != t292) = false := bne_eq_false_iff_eq.mpr c34
                  clear c34
                  by_cases c35 : t296 = t300
                  · rw [if_pos c35] at H
                    have c35b0 : (t296 == t300) = true := beq_iff_eq.mpr c35
                    have c35b1 : (t296 != t300) = false := bne_eq_false_iff_eq.mpr c35
                    clear c35
                    replace H := Option.bind_eq_some_iff.mp H
                    obtain ⟨t313, A360, H⟩ := H
                    replace H : (if t313 = true then (if t306 = t308 then (if t305 = t307 then (if t310 = t312 then (laws_FnCalendars.j0 k t281 t282 t286 t288 t289 t291 t292 t294 t296 t299 t311 (t309 != t311)) else (laws_FnCalendars.j0 k t281 t282 t286 t288 t289 t291 t292 t294 t296 t299 t311 true)) else (laws_FnCalendars.j0 k t281 t282 t286 t288 t289 t291 t292 t294 t296 t299 t311 true)) else (laws_FnCalendars.j0 k t281 t282 t286 t288 t289 t291 t292 t294 t296 t299 t311 true)) else (laws_FnCalendars.j0 k t281 t282 t286 t288 t289 t291 t292 t294 t296 t299 t311 true)) = some r := H
                    have A36 := Aside0.mk A360
                    clear A360
                    by_cases c37 : t313 = true
                    · subst c37
                      have H1 : (if t306 = t308 then (if t305 = t307 then (if t310 = t312 then (laws_FnCalendars.j0 k t281 t282 t286 t288 t289 t291 t292 t294 t296 t299 t311 (t309 != t311)) else (laws_FnCalendars.j0 k t281 t282 t286 t288 t289 t291 t292 t294 t296 t299 t311 true)) else (laws_FnCalendars.j0 k t281 t282 t286 t288 t289 t291 t292 t294 t296 t299 t311 true)) else (laws_FnCalendars.j0 k t281 t282 t286 t288 t289 t291 t292 t294 t296 t299 t311 true)) = some r := by rw [if_pos rfl] at H; exact H
                      clear H
                      have H := H1
                      clear H1
                      by_cases c38 : t306 = t308
                      · rw [if_pos c38] at H
                        have c38b0 : (t306 == t308) = true := beq_iff_eq.mpr c38
                        have c38b1 : (t306 != t308) = false := bne_eq_false_iff_eq.mpr c38
                        clear c38
                        by_cases c39 : t305 = t307
                        · rw [if_pos c39] at H
                          have c39b0 : (t305 == t307) = true := beq_iff_eq.mpr c39
                          have c39b1 : (t305 != t307) = false := bne_eq_false_iff_eq.mpr c39
                          clear c39
                          by_cases c40 : t310 = t312
                          · rw [if_pos c40] at H
                            have c40b0 : (t310 == t312) = true := beq_iff_eq.mpr c40
                            have c40b1 : (t310 != t312) = false := bne_eq_false_iff_eq.mpr c40
                            clear c40
                            have H' := Aside0.mk H
                            clear H
                            obtain ⟨Ao41, co41, eo41⟩ := Kd.R_slice HO298.out
                            subst eo41
                            obtain ⟨Ao42, co42, eo42⟩ := Kd.R_slice HO302.out
                            subst eo42
                            go_wp2_with (first | (go_at_call 35; (with_reducible refine (laws_f6ints.calls k _ _ t295 _ _ t299 true _ ?side1 ?side2 ?side3 ?side4 A36.out).mono ?_); (case side1 => repeat (first | exact (Kd.R_reads' HO298.out).2.2 | (with_reducible refine Kd.C_alloc ?_ _) | (with_reducible refine Kd.C_drewN ?_ _) | (with_reducible refine Kd.C_drew ?_))); (case side2 => exact (Kd.R_reads' HO298.out).2.1); (case side3 => repeat (first | exact (Kd.R_reads' HO302.out).2.2 | (with_reducible refine Kd.C_alloc ?_ _) | (with_reducible refine Kd.C_drewN ?_ _) | (with_reducible refine Kd.C_drew ?_))); (case side4 => exact (Kd.R_reads' HO302.out).2.1); rintro e w' ⟨rfl, ⟨nd, rfl⟩⟩; (try first | exact ⟨rfl, _, World.drewN_drewN _ _ _⟩ | exact ⟨rfl, _, Eq.trans (World.drewN_drewN _ _ _) (congrArg (World.drewN _) (Nat.add_assoc _ _ _))⟩)))
                            repeat (go_quiet (first | (go_at_call 35; (with_reducible refine (laws_f6ints.calls k _ _ t295 _ _ t299 true _ ?side1 ?side2 ?side3 ?side4 A36.out).mono ?_); (case side1 => repeat (first | exact (Kd.R_reads' HO298.out).2.2 | (with_reducible refine Kd.C_alloc ?_ _) | (with_reducible refine Kd.C_drewN ?_ _) | (with_reducible refine Kd.C_drew ?_))); (case side2 => exact (Kd.R_reads' HO298.out).2.1); (case side3 => repeat (first | exact (Kd.R_reads' HO302.out).2.2 | (with_reducible refine Kd.C_alloc ?_ _) | (with_reducible refine Kd.C_drewN ?_ _) | (with_reducible refine Kd.C_drew ?_))); (case side4 => exact (Kd.R_reads' HO302.out).2.1); rintro e w' ⟨rfl, ⟨nd, rfl⟩⟩; (try first | exact ⟨rfl, _, World.drewN_drewN _ _ _⟩ | exact ⟨rfl, _, Eq.trans (World.drewN_drewN _ _ _) (congrArg (World.drewN _) (Nat.add_assoc _ _ _))⟩))); try go_wp2_with (first | (go_at_call 35; (with_reducible refine (laws_f6ints.calls k _ _ t295 _ _ t299 true _ ?side1 ?side2 ?side3 ?side4 A36.out).mono ?_); (case side1 => repeat (first | exact (Kd.R_reads' HO298.out).2.2 | (with_reducible refine Kd.C_alloc ?_ _) | (with_reducible refine Kd.C_drewN ?_ _) | (with_reducible refine Kd.C_drew ?_))); (case side2 => exact (Kd.R_reads' HO298.out).2.1); (case side3 => repeat (first | exact (Kd.R_reads' HO302.out).2.2 | (with_reducible refine Kd.C_alloc ?_ _) | (with_reducible refine Kd.C_drewN ?_ _) | (with_reducible refine Kd.C_drew ?_))); (case side4 => exact (Kd.R_reads' HO302.out).2.1); rintro e w' ⟨rfl, ⟨nd, rfl⟩⟩; (try first | exact ⟨rfl, _, World.drewN_drewN _ _ _⟩ | exact ⟨rfl, _, Eq.trans (World.drewN_drewN _ _ _) (congrArg (World.drewN _) (Nat.add_assoc _ _ _))⟩))))
                            go_meet
                            case rel => exact ⟨_, ((t309 != t311)), (by first | rfl | (simp; done) | (simp [*]; done)), H', ⟨by first | omega | exact Nat.le_refl _⟩, ⟨by (with_reducible repeat (first | apply Kd.R_alloc | apply Kd.R_drewN | apply Kd.R_drew)); exact Kd.R_mono HO302.out (fun _ hk => trivial)⟩, ⟨by repeat (first | (with_reducible first | exact HB.out | apply below_alloc | apply pw_below_drewN | apply below_drew1) | exact HB.out)⟩⟩
                          · rw [if_neg c40] at H
                            have c40b0 : (t310 == t312) = false := beq_eq_false_iff_ne.mpr c40
                            have c40b1 : (t310 != t312) = true := bne_iff_ne.mpr c40
                            have H' := Aside0.mk H
                            clear H
                            obtain ⟨Ao43, co43, eo43⟩ := Kd.R_slice HO298.out
                            subst eo43
                            obtain ⟨Ao44, co44, eo44⟩ := Kd.R_slice HO302.out
                            subst eo44
                            go_wp2_with (first | (go_at_call 35; (with_reducible refine (laws_f6ints.calls k _ _ t295 _ _ t299 true _ ?side1 ?side2 ?side3 ?side4 A36.out).mono ?_); (case side1 => repeat (first | exact (Kd.R_reads' HO298.out).2.2 | (with_reducible refine Kd.C_alloc ?_ _) | (with_reducible refine Kd.C_drewN ?_ _) | (with_reducible refine Kd.C_drew ?_))); (case side2 => exact (Kd.R_reads' HO298.out).2.1); (case side3 => repeat (first | exact (Kd.R_reads' HO302.out).2.2 | (with_reducible refine Kd.C_alloc ?_ _) | (with_reducible refine Kd.C_drewN ?_ _) | (with_reducible refine Kd.C_drew ?_))); (case side4 => exact (Kd.R_reads' HO302.out).2.1); rintro e w' ⟨rfl, ⟨nd, rfl⟩⟩; (try first | exact ⟨rfl, _, World.drewN_drewN _ _ _⟩ | exact ⟨rfl, _, Eq.trans (World.drewN_drewN _ _ _) (congrArg (World.drewN _) (Nat.add_assoc _ _ _))⟩)))
                            repeat (go_quiet (first | (go_at_call 35; (with_reducible refine (laws_f6ints.calls k _ _ t295 _ _ t299 true _ ?side1 ?side2 ?side3 ?side4 A36.out).mono ?_); (case side1 => repeat (first | exact (Kd.R_reads' HO298.out).2.2 | (with_reducible refine Kd.C_alloc ?_ _) | (with_reducible refine Kd.C_drewN ?_ _) | (with_reducible refine Kd.C_drew ?_))); (case side2 => exact (Kd.R_reads' HO298.out).2.1); (case side3 => repeat (first | exact (Kd.R_reads' HO302.out).2.2 | (with_reducible refine Kd.C_alloc ?_ _) | (with_reducible refine Kd.C_drewN ?_ _) | (with_reducible refine Kd.C_drew ?_))); (case side4 => exact (Kd.R_reads' HO302.out).2.1); rintro e w' ⟨rfl, ⟨nd, rfl⟩⟩; (try first | exact ⟨rfl, _, World.drewN_drewN _ _ _⟩ | exact ⟨rfl, _, Eq.trans (World.drewN_drewN _ _ _) (congrArg (World.drewN _) (Nat.add_assoc _ _ _))⟩))); try go_wp2_with (first | (go_at_call 35; (with_reducible refine (laws_f6ints.calls k _ _ t295 _ _ t299 true _ ?side1 ?side2 ?side3 ?side4 A36.out).mono ?_); (case side1 => repeat (first | exact (Kd.R_reads' HO298.out).2.2 | (with_reducible refine Kd.C_alloc ?_ _) | (with_reducible refine Kd.C_drewN ?_ _) | (with_reducible refine Kd.C_drew ?_))); (case side2 => exact (Kd.R_reads' HO298.out).2.1); (case side3 => repeat (first | exact (Kd.R_reads' HO302.out).2.2 | (with_reducible refine Kd.C_alloc ?_ _) | (with_reducible refine Kd.C_drewN ?_ _) | (with_reducible refine Kd.C_drew ?_))); (case side4 => exact (Kd.R_reads' HO302.out).2.1); rintro e w' ⟨rfl, ⟨nd, rfl⟩⟩; (try first | exact ⟨rfl, _, World.drewN_drewN _ _ _⟩ | exact ⟨rfl, _, Eq.trans (World.drewN_drewN _ _ _) (congrArg (World.drewN _) (Nat.add_assoc _ _ _))⟩))))
                            go_meet
                            case rel => exact ⟨_, (true), (by first | rfl | (simp; done) | (simp [*]; done)), H', ⟨by first | omega | exact Nat.le_refl _⟩, ⟨by (with_reducible repeat (first | apply Kd.R_alloc | apply Kd.R_drewN | apply Kd.R_drew)); exact Kd.R_mono HO302.out (fun _ hk => trivial)⟩, ⟨by repeat (first | (with_reducible first | exact HB.out | apply below_alloc | apply pw_below_drewN | apply below_drew1) | exact HB.out)⟩⟩
                        · rw [if_neg c39] at H
                          have c39b0 : (t305 == t307) = false := beq_eq_false_iff_ne.mpr c39
                          have c39b1 : (t305 != t307) = true := bne_iff_ne.mpr c39
                          have H' := Aside0.mk H
                          clear H
                          obtain ⟨Ao45, co45, eo45⟩ := Kd.R_slice HO298.out
                          subst eo45
                          obtain ⟨Ao46, co46, eo46⟩ := Kd.R_slice HO302.out
                          subst eo46
                          go_wp2_with (first | (go_at_call 35; (with_reducible refine (laws_f6ints.calls k _ _ t295 _ _ t299 true _ ?side1 ?side2 ?side3 ?side4 A36.out).mono ?_); (case side1 => repeat (first | exact (Kd.R_reads' HO298.out).2.2 | (with_reducible refine Kd.C_alloc ?_ _) | (with_reducible refine Kd.C_drewN ?_ _) | (with_reducible refine Kd.C_drew ?_))); (case side2 => exact (Kd.R_reads' HO298.out).2.1); (case side3 => repeat (first | exact (Kd.R_reads' HO302.out).2.2 | (with_reducible refine Kd.C_alloc ?_ _) | (with_reducible refine Kd.C_drewN ?_ _) | (with_reducible refine Kd.C_drew ?_))); (case side4 => exact (Kd.R_reads' HO302.out).2.1); rintro e w' ⟨rfl, ⟨nd, rfl⟩⟩; (try first | exact ⟨rfl, _, World.drewN_drewN _ _ _⟩ | exact ⟨rfl, _, Eq.trans (World.drewN_drewN _ _ _) (congrArg (World.drewN _) (Nat.add_assoc _ _ _))⟩)))
                          repeat (go_quiet (first | (go_at_call 35; (with_reducible refine (laws_f6ints.calls k _ _ t295 _ _ t299 true _ ?side1 ?side2 ?side3 ?side4 A36.out).mono ?_); (case side1 => repeat (first | exact (Kd.R_reads' HO298.out).2.2 | (with_reducible refine Kd.C_alloc ?_ _) | (with_reducible refine Kd.C_drewN ?_ _) | (with_reducible refine Kd.C_drew ?_))); (case side2 => exact (Kd.R_reads' HO298.out).2.1); (case side3 => repeat (first | exact (Kd.R_reads' HO302.out).2.2 | (with_reducible refine Kd.C_alloc ?_ _) | (with_reducible refine Kd.C_drewN ?_ _) | (with_reducible refine Kd.C_drew ?_))); (case side4 => exact (Kd.R_reads' HO302.out).2.1); rintro e w' ⟨rfl, ⟨nd, rfl⟩⟩; (try first | exact ⟨rfl, _, World.drewN_drewN _ _ _⟩ | exact ⟨rfl, _, Eq.trans (World.drewN_drewN _ _ _) (congrArg (World.drewN _) (Nat.add_assoc _ _ _))⟩))); try go_wp2_with (first | (go_at_call 35; (with_reducible refine (laws_f6ints.calls k _ _ t295 _ _ t299 true _ ?side1 ?side2 ?side3 ?side4 A36.out).mono ?_); (case side1 => repeat (first | exact (Kd.R_reads' HO298.out).2.2 | (with_reducible refine Kd.C_alloc ?_ _) | (with_reducible refine Kd.C_drewN ?_ _) | (with_reducible refine Kd.C_drew ?_))); (case side2 => exact (Kd.R_reads' HO298.out).2.1); (case side3 => repeat (first | exact (Kd.R_reads' HO302.out).2.2 | (with_reducible refine Kd.C_alloc ?_ _) | (with_reducible refine Kd.C_drewN ?_ _) | (with_reducible refine Kd.C_drew ?_))); (case side4 => exact (Kd.R_reads' HO302.out).2.1); rintro e w' ⟨rfl, ⟨nd, rfl⟩⟩; (try first | exact ⟨rfl, _, World.drewN_drewN _ _ _⟩ | exact ⟨rfl, _, Eq.trans (World.drewN_drewN _ _ _) (congrArg (World.drewN _) (Nat.add_assoc _ _ _))⟩))))
                          go_meet
                          case rel => exact ⟨_, (true), (by first | rfl | (simp; done) | (simp [*]; done)), H', ⟨by first | omega | exact Nat.le_refl _⟩, ⟨by (with_reducible repeat (first | apply Kd.R_alloc | apply Kd.R_drewN | apply Kd.R_drew)); exact Kd.R_mono HO302.out (fun _ hk => trivial)⟩, ⟨by repeat (first | (with_reducible first | exact HB.out | apply below_alloc | apply pw_below_drewN | apply below_drew1) | exact HB.out)⟩⟩
                      · rw [if_neg c38] at H
                        have c38b0 : (t306 == t308) = false := beq_eq_false_iff_ne.mpr c38
                        have c38b1 : (t306 != t308) = true := bne_iff_ne.mpr c38
                        have H' := Aside0.mk H
                        clear H
                        obtain ⟨Ao47, co47, eo47⟩ := Kd.R_slice HO298.out
                        subst eo47
                        obtain ⟨Ao48, co48, eo48⟩ := Kd.R_slice HO302.out
                        subst eo48
                        go_wp2_with (first | (go_at_call 35; (with_reducible refine (laws_f6ints.calls k _ _ t295 _ _ t299 true _ ?side1 ?side2 ?side3 ?side4 A36.out).mono ?_); (case side1 => repeat (first | exact (Kd.R_reads' HO298.out).2.2 | (with_reducible refine Kd.C_alloc ?_ _) | (with_reducible refine Kd.C_drewN ?_ _) | (with_reducible refine Kd.C_drew ?_))); (case side2 => exact (Kd.R_reads' HO298.out).2.1); (case side3 => repeat (first | exact (Kd.R_reads' HO302.out).2.2 | (with_reducible refine Kd.C_alloc ?_ _) | (with_reducible refine Kd.C_drewN ?_ _) | (with_reducible refine Kd.C_drew ?_))); (case side4 => exact (Kd.R_reads' HO302.out).2.1); rintro e w' ⟨rfl, ⟨nd, rfl⟩⟩; (try first | exact ⟨rfl, _, World.drewN_drewN _ _ _⟩ | exact ⟨rfl, _, Eq.trans (World.drewN_drewN _ _ _) (congrArg (World.drewN _) (Nat.add_assoc _ _ _))⟩)))
                        repeat (go_quiet (first | (go_at_call 35; (with_reducible refine (laws_f6ints.calls k _ _ t295 _ _ t299 true _ ?side1 ?side2 ?side3 ?side4 A36.out).mono ?_); (case side1 => repeat (first | exact (Kd.R_reads' HO298.out).2.2 | (with_reducible refine Kd.C_alloc ?_ _) | (with_reducible refine Kd.C_drewN ?_ _) | (with_reducible refine Kd.C_drew ?_))); (case side2 => exact (Kd.R_reads' HO298.out).2.1); (case side3 => repeat (first | exact (Kd.R_reads' HO302.out).2.2 | (with_reducible refine Kd.C_alloc ?_ _) | (with_reducible refine Kd.C_drewN ?_ _) | (with_reducible refine Kd.C_drew ?_))); (case side4 => exact (Kd.R_reads' HO302.out).2.1); rintro e w' ⟨rfl, ⟨nd, rfl⟩⟩; (try first | exact ⟨rfl, _, World.drewN_drewN _ _ _⟩ | exact ⟨rfl, _, Eq.trans (World.drewN_drewN _ _ _) (congrArg (World.drewN _) (Nat.add_assoc _ _ _))⟩))); try go_wp2_with (first | (go_at_call 35; (with_reducible refine (laws_f6ints.calls k _ _ t295 _ _ t299 true _ ?side1 ?side2 ?side3 ?side4 A36.out).mono ?_); (case side1 => repeat (first | exact (Kd.R_reads' HO298.out).2.2 | (with_reducible refine Kd.C_alloc ?_ _) | (with_reducible refine Kd.C_drewN ?_ _) | (with_reducible refine Kd.C_drew ?_))); (case side2 => exact (Kd.R_reads' HO298.out).2.1); (case side3 => repeat (first | exact (Kd.R_reads' HO302.out).2.2 | (with_reducible refine Kd.C_alloc ?_ _) | (with_reducible refine Kd.C_drewN ?_ _) | (with_reducible refine Kd.C_drew ?_))); (case side4 => exact (Kd.R_reads' HO302.out).2.1); rintro e w' ⟨rfl, ⟨nd, rfl⟩⟩; (try first | exact ⟨rfl, _, World.drewN_drewN _ _ _⟩ | exact ⟨rfl, _, Eq.trans (World.drewN_drewN _ _ _) (congrArg (World.drewN _) (Nat.add_assoc _ _ _))⟩))))
                        go_meet
                        case rel => exact ⟨_, (true), (by first | rfl | (simp; done) | (simp [*]; done)), H', ⟨by first | omega | exact Nat.le_refl _⟩, ⟨by (with_reducible repeat (first | apply Kd.R_alloc | apply Kd.R_drewN | apply Kd.R_drew)); exact Kd.R_mono HO302.out (fun _ hk => trivial)⟩, ⟨by repeat (first | (with_reducible first | exact HB.out | apply below_alloc | apply pw_below_drewN | apply below_drew1) | exact HB.out)⟩⟩
                    · replace c37 := Bool.eq_false_iff.mpr c37
                      subst c37
                      have H1 : (laws_FnCalendars.j0 k t281 t282 t286 t288 t289 t291 t292 t294 t296 t299 t311 true) = some r := by rw [if_neg (show ¬ (false = true) by decide)] at H; exact H
                      clear H
                      have H := H1
                      clear H1
                      have H' := Aside0.mk H
                      clear H
                      obtain ⟨Ao49, co49, eo49⟩ := Kd.R_slice HO298.out
                      subst eo49
                      obtain ⟨Ao50, co50, eo50⟩ := Kd.R_slice HO302.out
                      subst eo50
                      go_wp2_with (first | (go_at_call 35; (with_reducible refine (laws_f6ints.calls k _ _ t295 _ _ t299 false _ ?side1 ?side2 ?side3 ?side4 A36.out).mono ?_); (case side1 => repeat (first | exact (Kd.R_reads' HO298.out).2.2 | (with_reducible refine Kd.C_alloc ?_ _) | (with_reducible refine Kd.C_drewN ?_ _) | (with_reducible refine Kd.C_drew ?_))); (case side2 => exact (Kd.R_reads' HO298.out).2.1); (case side3 => repeat (first | exact (Kd.R_reads' HO302.out).2.2 | (with_reducible refine Kd.C_alloc ?_ _) | (with_reducible refine Kd.C_drewN ?_ _) | (with_reducible refine Kd.C_drew ?_))); (case side4 => exact (Kd.R_reads' HO302.out).2.1); rintro e w' ⟨rfl, ⟨nd, rfl⟩⟩; (try first | exact ⟨rfl, _, World.drewN_drewN _ _ _⟩ | exact ⟨rfl, _, Eq.trans (World.drewN_drewN _ _ _) (congrArg (World.drewN _) (Nat.add_assoc _ _ _))⟩)))
                      repeat (go_quiet (first | (go_at_call 35; (with_reducible refine (laws_f6ints.calls k _ _ t295 _ _ t299 false _ ?side1 ?side2 ?side3 ?side4 A36.out).mono ?_); (case side1 => repeat (first | exact (Kd.R_reads' HO298.out).2.2 | (with_reducible refine Kd.C_alloc ?_ _) | (with_reducible refine Kd.C_drewN ?_ _) | (with_reducible refine Kd.C_drew ?_))); (case side2 => exact (Kd.R_reads' HO298.out).2.1); (case side3 => repeat (first | exact (Kd.R_reads' HO302.out).2.2 | (with_reducible refine Kd.C_alloc ?_ _) | (with_reducible refine Kd.C_drewN ?_ _) | (with_reducible refine Kd.C_drew ?_))); (case side4 => exact (Kd.R_reads' HO302.out).2.1); rintro e w' ⟨rfl, ⟨nd, rfl⟩⟩; (try first | exact ⟨rfl, _, World.drewN_drewN _ _ _⟩ | exact ⟨rfl, _, Eq.trans (World.drewN_drewN _ _ _) (congrArg (World.drewN _) (Nat.add_assoc _ _ _))⟩))); try go_wp2_with (first | (go_at_call 35; (with_reducible refine (laws_f6ints.calls k _ _ t295 _ _ t299 false _ ?side1 ?side2 ?side3 ?side4 A36.out).mono ?_); (case side1 => repeat (first | exact (Kd.R_reads' HO298.out).2.2 | (with_reducible refine Kd.C_alloc ?_ _) | (with_reducible refine Kd.C_drewN ?_ _) | (with_reducible refine Kd.C_drew ?_))); (case side2 => exact (Kd.R_reads' HO298.out).2.1); (case side3 => repeat (first | exact (Kd.R_reads' HO302.out).2.2 | (with_reducible refine Kd.C_alloc ?_ _) | (with_reducible refine Kd.C_drewN ?_ _) | (with_reducible refine Kd.C_drew ?_))); (case side4 => exact (Kd.R_reads' HO302.out).2.1); rintro e w' ⟨rfl, ⟨nd, rfl⟩⟩; (try first | exact ⟨rfl, _, World.drewN_drewN _ _ _⟩ | exact ⟨rfl, _, Eq.trans (World.drewN_drewN _ _ _) (congrArg (World.drewN _) (Nat.add_assoc _ _ _))⟩))))
                      go_meet
                      case rel => exact ⟨_, (true), (by first | rfl | (simp; done) | (simp [*]; done)), H', ⟨by first | omega | exact Nat.le_refl _⟩, ⟨by (with_reducible repeat (first | apply Kd.R_alloc | apply Kd.R_drewN | apply Kd.R_drew)); exact Kd.R_mono HO302.out (fun _ hk => trivial)⟩, ⟨by repeat (first | (with_reducible first | exact HB.out | apply below_alloc | apply pw_below_drewN | apply below_drew1) | exact HB.out)⟩⟩
                  · rw [if_neg c35] at H
                    have c35b0 : (t296 == t300) = false := beq_eq_false_iff_ne.mpr c35
                    have c35b1 : (t296 != t300) = true := bne_iff_ne.mpr c35
                    have H' := Aside0.mk H
                    clear H
                    go_wp2
                    repeat (go_quiet (fail); try go_wp2)
                    go_meet
                    case rel => exact ⟨_, (true), (by first | rfl | (simp; done) | (simp [*]; done)), H', ⟨by first | omega | exact Nat.le_refl _⟩, ⟨by (with_reducible repeat (first | apply Kd.R_alloc | apply Kd.R_drewN | apply Kd.R_drew)); exact Kd.R_mono HO302.out (fun _ hk => trivial)⟩, ⟨by repeat (first | (with_reducible first | exact HB.out | apply below_alloc | apply pw_below_drewN | apply below_drew1) | exact HB.out)⟩⟩
                · rw [if_neg c34] at H
                  have c34b0 : (t290 == t292) = false := beq_eq_false_iff_ne.mpr c34
                  have c34b1 : (t290 != t292) = true := bne_iff_ne.mpr c34
                  have H' := Aside0.mk H
                  clear H
                  go_wp2
                  repeat (go_quiet (fail); try go_wp2)
                  go_meet
                  case rel => exact ⟨_, (true), (by first | rfl | (simp; done) | (simp [*]; done)), H', ⟨by first | omega | exact Nat.le_refl _⟩, ⟨by (with_reducible repeat (first | apply Kd.R_alloc | apply Kd.R_drewN | apply Kd.R_drew)); exact Kd.R_mono HO302.out (fun _ hk => trivial)⟩, ⟨by repeat (first | (with_reducible first | exact HB.out | apply below_alloc | apply pw_below_drewN | apply below_drew1) | exact HB.out)⟩⟩
              · rw [if_neg c33] at H
                have c33b0 : (t291 == t293) = false := beq_eq_false_iff_ne.mpr c33
                have c33b1 : (t291 != t293) = true := bne_iff_ne.mpr c33
                have H' := Aside0.mk H
                clear H
                go_wp2
                repeat (go_quiet (fail); try go_wp2)
                go_meet
                case rel => exact ⟨_, (true), (by first | rfl | (simp; done) | (simp [*]; done)), H', ⟨by first | omega | exact Nat.le_refl _⟩, ⟨by (with_reducible repeat (first | apply Kd.R_alloc | apply Kd.R_drewN | apply Kd.R_drew)); exact Kd.R_mono HO302.out (fun _ hk => trivial)⟩, ⟨by repeat (first | (with_reducible first | exact HB.out | apply below_alloc | apply pw_below_drewN | apply below_drew1) | exact HB.out)⟩⟩
            · rw [if_neg c32] at H
              have c32b0 : (t284 == t286) = false := beq_eq_false_iff_ne.mpr c32
              have c32b1 : (t284 != t286) = true := bne_iff_ne.mpr c32
              have H' := Aside0.mk H
              clear H
              go_wp2
              repeat (go_quiet (fail); try go_wp2)
              go_meet
              case rel => exact ⟨_, (true), (by first | rfl | (simp; done) | (simp [*]; done)), H', ⟨by first | omega | exact Nat.le_refl _⟩, ⟨by (with_reducible repeat (first | apply Kd.R_alloc | apply Kd.R_drewN | apply Kd.R_drew)); exact Kd.R_mono HO302.out (fun _ hk => trivial)⟩, ⟨by repeat (first | (with_reducible first | exact HB.out | apply below_alloc | apply pw_below_drewN | apply below_drew1) | exact HB.out)⟩⟩
          · rw [if_neg c31] at H
            have c31b0 : (t285 == t287) = false := beq_eq_false_iff_ne.mpr c31
            have c31b1 : (t285 != t287) = true := bne_iff_ne.mpr c31
            have H' := Aside0.mk H
            clear H
            go_wp2
            repeat (go_quiet (fail); try go_wp2)
            go_meet
            case rel => exact ⟨_, (true), (by first | rfl | (simp; done) | (simp [*]; done)), H', ⟨by first | omega | exact Nat.le_refl _⟩, ⟨by (with_reducible repeat (first | apply Kd.R_alloc | apply Kd.R_drewN | apply Kd.R_drew)); exact Kd.R_mono HO302.out (fun _ hk => trivial)⟩, ⟨by repeat (first | (with_reducible first | exact HB.out | apply below_alloc | apply pw_below_drewN | apply below_drew1) | exact HB.out)⟩⟩
        · rw [if_neg c30] at H
          have c30b0 : (t280 == t282) = false := beq_eq_false_iff_ne.mpr c30
          have c30b1 : (t280 != t282) = true := bne_iff_ne.mpr c30
          have H' := Aside0.mk H
          clear H
          go_wp2
          repeat (go_quiet (fail); try go_wp2)
          go_meet
          case rel => exact ⟨_, (true), (by first | rfl | (simp; done) | (simp [*]; done)), H', ⟨by first | omega | exact Nat.le_refl _⟩, ⟨by (with_reducible repeat (first | apply Kd.R_alloc | apply Kd.R_drewN | apply Kd.R_drew)); exact Kd.R_mono HO302.out (fun _ hk => trivial)⟩, ⟨by repeat (first | (with_reducible first | exact HB.out | apply below_alloc | apply pw_below_drewN | apply below_drew1) | exact HB.out)⟩⟩
      · rw [if_neg c29] at H
        have c29b0 : (t281 == t283) = false := beq_eq_false_iff_ne.mpr c29
        have c29b1 : (t281 != t283) = true := bne_iff_ne.mpr c29
        (first | rw [c29b0] | (simp only [i64_w, i32_w]; rw [c29b0]) | skip)
        have H' := Aside0.mk H
        clear H
        go_wp2
        repeat (go_quiet (fail); try go_wp2)
        go_meet
        case rel => exact ⟨_, (true), (by first | rfl | (simp; done) | (simp [*]; done)), H', ⟨by first | omega | exact Nat.le_refl _⟩, ⟨by (with_reducible repeat (first | apply Kd.R_alloc | apply Kd.R_drewN | apply Kd.R_drew)); exact Kd.R_mono HO302.out (fun _ hk => trivial)⟩, ⟨by repeat (first | (with_reducible first | exact HB.out | apply below_alloc | apply pw_below_drewN | apply below_drew1) | exact HB.out)⟩⟩
    case rest => as_aux_lemma =>
      clear HC20
      try clear c2
      try clear p2
      try clear c3
      try clear c4
      try clear c9
      try clear c29
      try clear c29b0
      try clear c29b1
      try clear c30
      try clear c30b0
      try clear c30b1
      try clear c31
      try clear c31b0
      try clear c31b1
      try clear c32
      try clear c32b0
      try clear c32b1
      try clear c33
      try clear c33b0
      try clear c33b1
      try clear c34
      try clear c34b0
      try clear c34b1
      try clear c35
      try clear c35b0
      try clear c35b1
      try clear c37
      try clear c38
      try clear c38b0
      try clear c38b1
      try clear c39
      try clear c39b0
      try clear c39b1
      try clear c40
      try clear c40b0
      try clear c40b1
      obtain ⟨kq, x184_19, rfl, HA, HJ19, HO_22, HB⟩ := hcut
      cases kq with
      | zero => exact absurd HA.out (by simp [laws_FnCalendars.j0])
      | succ kj19 =>
        have H := HA.out
        clear HA
        simp only [laws_FnCalendars.j0] at H
        by_cases c51 : x184_19 = true
        · subst c51
          have H1 : (some false) = some r := by rw [if_pos rfl] at H; exact H
          clear H
          have H := H1
          clear H1
          obtain rfl := Option.some.inj H
          go_wp2
          repeat (go_quiet (fail); try go_wp2)
          go_ret
          exact ⟨by first | rfl | (simp [errW_none, errW_some] <;> rfl) | (simp [*, errW_none, errW_some] <;> rfl), by repeat (first | (with_reducible first | exact HB.out | apply below_alloc | apply pw_below_drewN | apply below_drew1) | exact HB.out)⟩
        · replace c51 := Bool.eq_false_iff.mpr c51
          subst c51
          have H1 : (if t291 = 0 then ((impl_SunOn.f t288 t292).bind fun bt314 => (if bt314.2 = 0 then (laws_FnCalendars.j1 kj19 t281 t282 t286 t288 t289 t292 t294 t296 t299 t311 (decide (bt314.1 < t289))) else (laws_FnCalendars.j1 kj19 t281 t282 t286 t288 t289 t292 t294 t296 t299 t311 true))) else (laws_FnCalendars.j2 kj19 t281 t282 t286 t294 t296 t299 t311)) = some r := by rw [if_neg (show ¬ (false = true) by decide)] at H; exact H
          clear H
          have H := H1
          clear H1
          have HC52 := Aside0.mk H
          clear H
          go_upto_if 186 with (fail)
          repeat (go_quiet (fail); go_upto_if 186 with (fail))
          go_cut [] (fun wc => ∃ (kq : Nat), Aside0 (laws_FnCalendars.j2 kq t281 t282 t286 t294 t296 t299 t311 = some r) ∧ Aside0 (kq ≤ kj19) ∧ Aside0 (Kd.R (Kd.int .i64) 2 wc w.heap.size (fun _ => True) v301 t299) ∧ Aside0 (Below w.heap.size w wc))
          case first => as_aux_lemma =>
            have H := HC52.out
            clear HC52
            by_cases c53 : t291 = 0
            · rw [if_pos c53] at H
              have c53b0 : (t291 == 0) = true := beq_iff_eq.mpr c53
              have c53b1 : (t291 != 0) = false := bne_eq_false_iff_eq.mpr c53
              clear c53
              (first | rw [c53b0] | (simp only [i64_w, i32_w]; rw [c53b0]) | skip)
              replace H := Option.bind_eq_some_iff.mp H
              obtain ⟨⟨t314, t315⟩, A540, H⟩ := H
              replace H : (if t315 = 0 then (laws_FnCalendars.j1 kj19 t281 t282 t286 t288 t289 t292 t294 t296 t299 t311 (decide (t314 < t289))) else (laws_FnCalendars.j1 kj19 t281 t282 t286 t288 t289 t292 t294 t296 t299 t311 true)) = some r := H
              have A54 := Aside0.mk A540
              clear A540
              have HC55 := Aside0.mk H
              clear H
              go_upto_region 23 with (first | (go_at_call 16; (with_reducible refine (impl_SunOn.calls t288 t292 t314 t315 _ A54.out).mono ?_); rintro e w' ⟨rfl, ⟨nd, rfl⟩⟩; (try first | exact ⟨rfl, _, World.drewN_drewN _ _ _⟩ | exact ⟨rfl, _, Eq.trans (World.drewN_drewN _ _ _) (congrArg (World.drewN _) (Nat.add_assoc _ _ _))⟩)))
              repeat (go_quiet (first | (go_at_call 16; (with_reducible refine (impl_SunOn.calls t288 t292 t314 t315 _ A54.out).mono ?_); rintro e w' ⟨rfl, ⟨nd, rfl⟩⟩; (try first | exact ⟨rfl, _, World.drewN_drewN _ _ _⟩ | exact ⟨rfl, _, Eq.trans (World.drewN_drewN _ _ _) (congrArg (World.drewN _) (Nat.add_assoc _ _ _))⟩))); go_upto_region 23 with (first | (go_at_call 16; (with_reducible refine (impl_SunOn.calls t288 t292 t314 t315 _ A54.out).mono ?_); rintro e w' ⟨rfl, ⟨nd, rfl⟩⟩; (try first | exact ⟨rfl, _, World.drewN_drewN _ _ _⟩ | exact ⟨rfl, _, Eq.trans (World.drewN_drewN _ _ _) (congrArg (World.drewN _) (Nat.add_assoc _ _ _))⟩))))
              (try simp only [Act.put, List.setIfInBounds_toArray, List.set_cons_zero, List.set_cons_succ])
              go_cut [199] (fun v199 wc => ∃ (kq : Nat) (x199_54 : Bool), v199 = .bool x199_54 ∧ Aside0 (laws_FnCalendars.j1 kq t281 t282 t286 t288 t289 t292 t294 t296 t299 t311 x199_54 = some r) ∧ Aside0 (kq ≤ kj19) ∧ Aside0 (Kd.R (Kd.int .i64) 2 wc w.heap.size (fun _ => True) v301 t299) ∧ Aside0 (Below w.heap.size w wc))
              case first => as_aux_lemma =>
                have H := HC55.out
                clear HC55
                by_cases c56 : t315 = 0
                · rw [if_pos c56] at H
                  have c56b0 : (t315 == 0) = true := beq_iff_eq.mpr c56
                  have c56b1 : (t315 != 0) = false := bne_eq_false_iff_eq.mpr c56
                  clear c56
                  (first | rw [c56b0] | (simp only [i64_w, i32_w]; rw [c56b0]) | skip)
                  have H' := Aside0.mk H
                  clear H
                  go_wp2
                  repeat (go_quiet (fail); try go_wp2)
                  go_meet
                  case rel => exact ⟨_, (decide (t314 < t289)), (by first | rfl | (simp; done) | (simp [*]; done)), H', ⟨by have := HJ19.out; first | omega | exact Nat.le_refl _⟩, ⟨by (with_reducible repeat (first | apply Kd.R_alloc | apply Kd.R_drewN | apply Kd.R_drew)); exact HO_22.out⟩, ⟨by repeat (first | (with_reducible first | exact HB.out | apply below_alloc | apply pw_below_drewN | apply below_drew1) | exact HB.out)⟩⟩
                · rw [if_neg c56] at H
                  have c56b0 : (t315 == 0) = false := beq_eq_false_iff_ne.mpr c56
                  have c56b1 : (t315 != 0) = true := bne_iff_ne.mpr c56
                  (first | rw [c56b0] | (simp only [i64_w, i32_w]; rw [c56b0]) | skip)
                  have H' := Aside0.mk H
                  clear H
                  go_wp2
                  repeat (go_quiet (fail); try go_wp2)
                  go_meet
                  case rel => exact ⟨_, (true), (by first | rfl | (simp; done) | (simp [*]; done)), H', ⟨by have := HJ19.out; first | omega | exact Nat.le_refl _⟩, ⟨by (with_reducible repeat (first | apply Kd.R_alloc | apply Kd.R_drewN | apply Kd.R_drew)); exact HO_22.out⟩, ⟨by repeat (first | (with_reducible first | exact HB.out | apply below_alloc | apply pw_below_drewN | apply below_drew1) | exact HB.out)⟩⟩
              case rest => as_aux_lemma =>
                clear HC55
                try clear c2
                try clear p2
                try clear c3
                try clear c4
                try clear c5
                try clear c9
                try clear c29
                try clear c29b0
                try clear c29b1
                try clear c30
                try clear c30b0
                try clear c30b1
                try clear c31
                try clear c31b0
                try clear c31b1
                try clear c32
                try clear c32b0
                try clear c32b1
                try clear c33
                try clear c33b0
                try clear c33b1
                try clear c34
                try clear c34b0
                try clear c34b1
                try clear c35
                try clear c35b0
                try clear c35b1
                try clear c37
                try clear c38
                try clear c38b0
                try clear c38b1
                try clear c39
                try clear c39b0
                try clear c39b1
                try clear c40
                try clear c40b0
                try clear c40b1
                try clear c51
                try clear c53
                try clear c53b0
                try clear c53b1
                try clear c56
                try clear c56b0
                try clear c56b1
                try clear p2
                obtain ⟨kq, x199_54, rfl, HA, HJ54, HO_22, HB⟩ := hcut
                cases kq with
                | zero => exact absurd HA.out (by simp [laws_FnCalendars.j1])
                | succ kj54 =>
                  have H := HA.out
                  clear HA
                  simp only [laws_FnCalendars.j1] at H
                  by_cases c57 : x199_54 = true
                  · subst c57
                    have H1 : (some false) = some r := by rw [if_pos rfl] at H; exact H
                    clear H
                    have H := H1
                    clear H1
                    obtain rfl := Option.some.inj H
                    go_wp2
                    repeat (go_quiet (fail); try go_wp2)
                    go_ret
                    exact ⟨by first | rfl | (simp [errW_none, errW_some] <;> rfl) | (simp [*, errW_none, errW_some] <;> rfl), by repeat (first | (with_reducible first | exact HB.out | apply below_alloc | apply pw_below_drewN | apply below_drew1) | exact HB.out)⟩
                  · replace c57 := Bool.eq_false_iff.mpr c57
                    subst c57
                    have H1 : (if t292 > 0 then ((impl_SunOn.f t288 (wrap64 (t292 - 1))).bind fun bt316 => (if bt316.2 = 0 then (if bt316.1 ≥ t289 then (some false) else (laws_FnCalendars.j2 kj54 t281 t282 t286 t294 t296 t299 t311)) else (some false))) else (laws_FnCalendars.j2 kj54 t281 t282 t286 t294 t296 t299 t311)) = some r := by rw [if_neg (show ¬ (false = true) by decide)] at H; exact H
                    clear H
                    have H := H1
                    clear H1
                    by_cases c58 : t292 > 0
                    · rw [if_pos c58] at H
                      have c58b0 : decide (0 < t292) = true := decide_eq_true c58
                      clear c58
                      replace H := Option.bind_eq_some_iff.mp H
                      obtain ⟨⟨t316, t317⟩, A590, H⟩ := H
                      replace H : (if t317 = 0 then (if t316 ≥ t289 then (some false) else (laws_FnCalendars.j2 kj54 t281 t282 t286 t294 t296 t299 t311)) else (some false)) = some r := H
                      have A59 := Aside0.mk A590
                      clear A590
                      by_cases c60 : t317 = 0
                      · rw [if_pos c60] at H
                        have c60b0 : (t317 == 0) = true := beq_iff_eq.mpr c60
                        have c60b1 : (t317 != 0) = false := bne_eq_false_iff_eq.mpr c60
                        clear c60
                        by_cases c61 : t316 ≥ t289
                        · rw [if_pos c61] at H
                          have c61b0 : decide (t289 ≤ t316) = true := decide_eq_true c61
                          clear c61
                          obtain rfl := Option.some.inj H
                          go_wp2_with (first | (go_at_call 16; (with_reducible refine (impl_SunOn.calls t288 (wrap64 (t292 - 1)) t316 t317 _ A59.out).mono ?_); rintro e w' ⟨rfl, ⟨nd, rfl⟩⟩; (try first | exact ⟨rfl, _, World.drewN_drewN _ _ _⟩ | exact ⟨rfl, _, Eq.trans (World.drewN_drewN _ _ _) (congrArg (World.drewN _) (Nat.add_assoc _ _ _))⟩)))
                          repeat (go_quiet (first | (go_at_call 16; (try simp only [Go.IntWalk.i64_left]); (with_reducible refine (impl_SunOn.calls t288 (wrap64 (t292 - 1)) t316 t317 _ A59.out).mono ?_); rintro e w' ⟨rfl, ⟨nd, rfl⟩⟩; (try first | exact ⟨rfl, _, World.drewN_drewN _ _ _⟩ | exact ⟨rfl, _, Eq.trans (World.drewN_drewN _ _ _) (congrArg (World.drewN _) (Nat.add_assoc _ _ _))⟩))); try go_wp2_with (first | (go_at_call 16; (try simp only [Go.IntWalk.i64_left]); (with_reducible refine (impl_SunOn.calls t288 (wrap64 (t292 - 1)) t316 t317 _ A59.out).mono ?_); rintro e w' ⟨rfl, ⟨nd, rfl⟩⟩; (try first | exact ⟨rfl, _, World.drewN_drewN _ _ _⟩ | exact ⟨rfl, _, Eq.trans (World.drewN_drewN _ _ _) (congrArg (World.drewN _) (Nat.add_assoc _ _ _))⟩))))
                          go_ret
                          exact ⟨by first | rfl | (simp [errW_none, errW_some] <;> rfl) | (simp [*, errW_none, errW_some] <;> rfl), by repeat (first | (with_reducible first | exact HB.out | apply below_alloc | apply pw_below_drewN | apply below_drew1) | exact HB.out)⟩
                        · rw [if_neg c61] at H
                          have c61b0 : decide (t289 ≤ t316) = false := decide_eq_false c61
                          clear c61
                          have H' := Aside0.mk H
                          clear H
                          go_wp2_with (first | (go_at_call 16; (with_reducible refine (impl_SunOn.calls t288 (wrap64 (t292 - 1)) t316 t317 _ A59.out).mono ?_); rintro e w' ⟨rfl, ⟨nd, rfl⟩⟩; (try first | exact ⟨rfl, _, World.drewN_drewN _ _ _⟩ | exact ⟨rfl, _, Eq.trans (World.drewN_drewN _ _ _) (congrArg (World.drewN _) (Nat.add_assoc _ _ _))⟩)))
                          repeat (go_quiet (first | (go_at_call 16; (try simp only [Go.IntWalk.i64_left]); (with_reducible refine (impl_SunOn.calls t288 (wrap64 (t292 - 1)) t316 t317 _ A59.out).mono ?_); rintro e w' ⟨rfl, ⟨nd, rfl⟩⟩; (try first | exact ⟨rfl, _, World.drewN_drewN _ _ _⟩ | exact ⟨rfl, _, Eq.trans (World.drewN_drewN _ _ _) (congrArg (World.drewN _) (Nat.add_assoc _ _ _))⟩))); try go_wp2_with (first | (go_at_call 16; (try simp only [Go.IntWalk.i64_left]); (with_reducible refine (impl_SunOn.calls t288 (wrap64 (t292 - 1)) t316 t317 _ A59.out).mono ?_); rintro e w' ⟨rfl, ⟨nd, rfl⟩⟩; (try first | exact ⟨rfl, _, World.drewN_drewN _ _ _⟩ | exact ⟨rfl, _, Eq.trans (World.drewN_drewN _ _ _) (congrArg (World.drewN _) (Nat.add_assoc _ _ _))⟩))))
                          go_meet
                          case rel => exact ⟨_, H', ⟨by have := HJ19.out; have := HJ54.out; first | omega | exact Nat.le_refl _⟩, ⟨by (with_reducible repeat (first | apply Kd.R_alloc | apply Kd.R_drewN | apply Kd.R_drew)); exact HO_22.out⟩, ⟨by repeat (first | (with_reducible first | exact HB.out | apply below_alloc | apply pw_below_drewN | apply below_drew1) | exact HB.out)⟩⟩
                      · rw [if_neg c60] at H
                        have c60b0 : (t317 == 0) = false := beq_eq_false_iff_ne.mpr c60
                        have c60b1 : (t317 != 0) = true := bne_iff_ne.mpr c60
                        obtain rfl := Option.some.inj H
                        go_wp2_with (first | (go_at_call 16; (with_reducible refine (impl_SunOn.calls t288 (wrap64 (t292 - 1)) t316 t317 _ A59.out).mono ?_); rintro e w' ⟨rfl, ⟨nd, rfl⟩⟩; (try first | exact ⟨rfl, _, World.drewN_drewN _ _ _⟩ | exact ⟨rfl, _, Eq.trans (World.drewN_drewN _ _ _) (congrArg (World.drewN _) (Nat.add_assoc _ _ _))⟩)))
                        repeat (go_quiet (first | (go_at_call 16; (try simp only [Go.IntWalk.i64_left]); (with_reducible refine (impl_SunOn.calls t288 (wrap64 (t292 - 1)) t316 t317 _ A59.out).mono ?_); rintro e w' ⟨rfl, ⟨nd, rfl⟩⟩; (try first | exact ⟨rfl, _, World.drewN_drewN _ _ _⟩ | exact ⟨rfl, _, Eq.trans (World.drewN_drewN _ _ _) (congrArg (World.drewN _) (Nat.add_assoc _ _ _))⟩))); try go_wp2_with (first | (go_at_call 16; (try simp only [Go.IntWalk.i64_left]); (with_reducible refine (impl_SunOn.calls t288 (wrap64 (t292 - 1)) t316 t317 _ A59.out).mono ?_); rintro e w' ⟨rfl, ⟨nd, rfl⟩⟩; (try first | exact ⟨rfl, _, World.drewN_drewN _ _ _⟩ | exact ⟨rfl, _, Eq.trans (World.drewN_drewN _ _ _) (congrArg (World.drewN _) (Nat.add_assoc _ _ _))⟩))))
                        go_ret
                        exact ⟨by first | rfl | (simp [errW_none, errW_some] <;> rfl) | (simp [*, errW_none, errW_some] <;> rfl), by repeat (first | (with_reducible first | exact HB.out | apply below_alloc | apply pw_below_drewN | apply below_drew1) | exact HB.out)⟩
                    · rw [if_neg c58] at H
                      have c58b0 : decide (0 < t292) = false := decide_eq_false c58
                      clear c58
                      have H' := Aside0.mk H
                      clear H
                      go_wp2
                      repeat (go_quiet (fail); try go_wp2)
                      go_meet
                      case rel => exact ⟨_, H', ⟨by have := HJ19.out; have := HJ54.out; first | omega | exact Nat.le_refl _⟩, ⟨by (with_reducible repeat (first | apply Kd.R_alloc | apply Kd.R_drewN | apply Kd.R_drew)); exact HO_22.out⟩, ⟨by repeat (first | (with_reducible first | exact HB.out | apply below_alloc | apply pw_below_drewN | apply below_drew1) | exact HB.out)⟩⟩
            · rw [if_neg c53] at H
              have c53b0 : (t291 == 0) = false := beq_eq_false_iff_ne.mpr c53
              have c53b1 : (t291 != 0) = true := bne_iff_ne.mpr c53
              (first | rw [c53b0] | (simp only [i64_w, i32_w]; rw [c53b0]) | skip)
              have H' := Aside0.mk H
              clear H
              go_wp2
              repeat (go_quiet (fail); try go_wp2)
              go_meet
              case rel => exact ⟨_, H', ⟨by have := HJ19.out; first | omega | exact Nat.le_refl _⟩, ⟨by (with_reducible repeat (first | apply Kd.R_alloc | apply Kd.R_drewN | apply Kd.R_drew)); exact HO_22.out⟩, ⟨by repeat (first | (with_reducible first | exact HB.out | apply below_alloc | apply pw_below_drewN | apply below_drew1) | exact HB.out)⟩⟩
          case rest => as_aux_lemma =>
            clear HC52
            try clear c2
            try clear p2
            try clear c3
            try clear c4
            try clear c5
            try clear c6
            try clear p6
            try clear c9
            try clear c29
            try clear c29b0
            try clear c29b1
            try clear c30
            try clear c30b0
            try clear c30b1
            try clear c31
            try clear c31b0
            try clear c31b1
            try clear c32
            try clear c32b0
            try clear c32b1
            try clear c33
            try clear c33b0
            try clear c33b1
            try clear c34
            try clear c34b0
            try clear c34b1
            try clear c35
            try clear c35b0
            try clear c35b1
            try clear c37
            try clear c38
            try clear c38b0
            try clear c38b1
            try clear c39
            try clear c39b0
            try clear c39b1
            try clear c40
            try clear c40b0
            try clear c40b1
            try clear c51
            try clear c53
            try clear c53b0
            try clear c53b1
            try clear c56
            try clear c56b0
            try clear c56b1
            try clear c57
            try clear c58
            try clear c58b0
            try clear c60
            try clear c60b0
            try clear c60b1
            try clear c61
            try clear c61b0
            try clear p2
            obtain ⟨kq, HA, HJ51, HO_22, HB⟩ := hcut
            cases kq with
            | zero => exact absurd HA.out (by simp [laws_FnCalendars.j2])
            | succ kj51 =>
              have H := HA.out
              clear HA
              simp only [laws_FnCalendars.j2] at H
              by_cases c62 : t296 = 0
              · rw [if_pos c62] at H
                have c62b0 : (t296 == 0) = true := beq_iff_eq.mpr c62
                have c62b1 : (t296 != 0) = false := bne_eq_false_iff_eq.mpr c62
                clear c62
                have H' := Aside0.mk H
                clear H
                go_wp2
                repeat (go_quiet (fail); try go_wp2)
                go_loopg [38] kj51 (fun kq v38 w' => ∃ (x38_3 : Int), v38 = .int .i64 x38_3 ∧ Aside0 (laws_FnCalendars.l0 kq t281 t282 t286 t294 t299 t311 x38_3 = some r) ∧ Aside0 (kq ≤ kj51) ∧ Aside0 (Kd.R (Kd.int .i64) 2 w' w.heap.size (fun _ => True) v301 t299) ∧ Aside0 (Below w.heap.size w w'))
                case atStart => exact ⟨(0), (by first | rfl | (simp; done) | (simp [*]; done)), H', ⟨Nat.le_refl _⟩, ⟨by (with_reducible repeat (first | apply Kd.R_alloc | apply Kd.R_drewN | apply Kd.R_drew)); exact HO_22.out⟩, ⟨by repeat (first | (with_reducible first | exact HB.out | apply below_alloc | apply pw_below_drewN | apply below_drew1) | exact HB.out)⟩⟩
                case round => as_aux_lemma =>
                  clear H'
                  try clear c2
                  try clear p2
                  try clear c3
                  try clear c4
                  try clear c5
                  try clear c6
                  try clear p6
                  try clear c9
                  try clear c29
                  try clear c29b0
                  try clear c29b1
                  try clear c30
                  try clear c30b0
                  try clear c30b1
                  try clear c31
                  try clear c31b0
                  try clear c31b1
                  try clear c32
                  try clear c32b0
                  try clear c32b1
                  try clear c33
                  try clear c33b0
                  try clear c33b1
                  try clear c34
                  try clear c34b0
                  try clear c34b1
                  try clear c35
                  try clear c35b0
                  try clear c35b1
                  try clear c37
                  try clear c38
                  try clear c38b0
                  try clear c38b1
                  try clear c39
                  try clear c39b0
                  try clear c39b1
                  try clear c40
                  try clear c40b0
                  try clear c40b1
                  try clear c51
                  try clear c53
                  try clear c53b0
                  try clear c53b1
                  try clear c56
                  try clear c56b0
                  try clear c56b1
                  try clear c57
                  try clear c58
                  try clear c58b0
                  try clear c60
                  try clear c60b0
                  try clear c60b1
                  try clear c61
                  try clear c61b0
                  try clear c62
                  try clear c62b0
                  try clear c62b1
                  try clear p2
                  try clear p6
                  obtain ⟨x38_3, rfl, HA, HK3, HO_22, HB⟩ := hrel
                  cases gk with
                  | zero => exact absurd HA.out (by simp [laws_FnCalendars.l0])
                  | succ k3 =>
                    have H := HA.out
                    clear HA
                    simp only [laws_FnCalendars.l0] at H
                    by_cases c63 : x38_3 < (t299.length : Int)
                    · rw [if_pos c63] at H
                      have c63b0 : decide (x38_3 < (t299.length : Int)) = true := decide_eq_true c63
                      clear c63
                      by_cases c64 : 0 ≤ x38_3
                      · rw [if_pos c64] at H
                        have c64b0 : decide (0 ≤ x38_3) = true := decide_eq_true c64
                        clear c64
                        replace H := Option.bind_eq_some_iff.mp H
                        obtain ⟨t319, A650, H⟩ := H
                        replace H : (if t319 > t311 then (some false) else (if x38_3 > 0 then (if 0 ≤ (wrap64 (x38_3 - 1)) then (if (wrap64 (x38_3 - 1)) < (t299.length : Int) then (if (rd t299 (wrap64 (x38_3 - 1))) ≥ (rd t299 x38_3) then (some false) else (laws_FnCalendars.l0 k3 t281 t282 t286 t294 t299 t311 (wrap64 (x38_3 + 1)))) else (none)) else (none)) else (laws_FnCalendars.l0 k3 t281 t282 t286 t294 t299 t311 (wrap64 (x38_3 + 1))))) = some r := H
                        have A65 := Aside0.mk A650
                        clear A650
                        by_cases c66 : t319 > t311
                        · rw [if_pos c66] at H
                          have c66b0 : decide (t311 < t319) = true := decide_eq_true c66
                          clear c66
                          obtain rfl := Option.some.inj H
                          obtain ⟨Ao67, co67, eo67⟩ := Kd.R_slice HO_22.out
                          subst eo67
                          have p318 : 0 ≤ (x38_3 : Int) := of_decide_eq_true (by first | (with_reducible assumption) | assumption)
                          have q318 : x38_3 < (t299.length : Int) := of_decide_eq_true (by first | (with_reducible assumption) | assumption)
                          obtain ⟨ad318, e318, hx318_0⟩ := Kd.at_int (Kd.R_reads' HO_22.out).2.2 x38_3 p318 q318
                          cases e318
                          replace p318 := eq_true p318
                          replace q318 := eq_true q318
                          go_wp2_with (first | (go_at_call 36; (with_reducible refine (laws_f6abs.calls (wrap64 ((wrap64 (t294 * (rd t299 x38_3))) - (wrap64 (x38_3 * 1296000)))) t319 _ A65.out).mono ?_); rintro e w' ⟨rfl, ⟨nd, rfl⟩⟩; (try first | exact ⟨rfl, _, World.drewN_drewN _ _ _⟩ | exact ⟨rfl, _, Eq.trans (World.drewN_drewN _ _ _) (congrArg (World.drewN _) (Nat.add_assoc _ _ _))⟩)))
                          repeat (go_quiet (first | (go_at_call 36; (try simp only [Go.IntWalk.i64_left]); (with_reducible refine (laws_f6abs.calls (wrap64 ((wrap64 (t294 * (rd t299 x38_3))) - (wrap64 (x38_3 * 1296000)))) t319 _ A65.out).mono ?_); rintro e w' ⟨rfl, ⟨nd, rfl⟩⟩; (try first | exact ⟨rfl, _, World.drewN_drewN _ _ _⟩ | exact ⟨rfl, _, Eq.trans (World.drewN_drewN _ _ _) (congrArg (World.drewN _) (Nat.add_assoc _ _ _))⟩))); try go_wp2_with (first | (go_at_call 36; (try simp only [Go.IntWalk.i64_left]); (with_reducible refine (laws_f6abs.calls (wrap64 ((wrap64 (t294 * (rd t299 x38_3))) - (wrap64 (x38_3 * 1296000)))) t319 _ A65.out).mono ?_); rintro e w' ⟨rfl, ⟨nd, rfl⟩⟩; (try first | exact ⟨rfl, _, World.drewN_drewN _ _ _⟩ | exact ⟨rfl, _, Eq.trans (World.drewN_drewN _ _ _) (congrArg (World.drewN _) (Nat.add_assoc _ _ _))⟩))))
                          go_ret
                          exact ⟨by first | rfl | (simp [errW_none, errW_some] <;> rfl) | (simp [*, errW_none, errW_some] <;> rfl), by repeat (first | (with_reducible first | exact HB.out | apply below_alloc | apply pw_below_drewN | apply below_drew1) | exact HB.out)⟩
                        · rw [if_neg c66] at H
                          have c66b0 : decide (t311 < t319) = false := decide_eq_false c66
                          clear c66
                          by_cases c68 : x38_3 > 0
                          · rw [if_pos c68] at H
                            have c68b0 : decide (0 < x38_3) = true := decide_eq_true c68
                            clear c68
                            obtain ⟨ji69, hji69⟩ : ∃ j_ : Int, (wrap64 (x38_3 - 1)) = j_ := ⟨_, rfl⟩
                            replace H : (if 0 ≤ (ji69) then (if (ji69) < (t299.length : Int) then (if (rd t299 (ji69)) ≥ (rd t299 x38_3) then (some false) else (laws_FnCalendars.l0 k3 t281 t282 t286 t294 t299 t311 (wrap64 (x38_3 + 1)))) else (none)) else (none)) = some r := by first | (rw [hji69] at H; exact H) | (simp only [hji69] at H ⊢; exact H)
                            (try rw [hji69] at A65)
                            have hji69w : (IntKind.i64.wrap (x38_3 - 1)) = ji69 := (i64_w _).trans hji69
                            by_cases c70 : 0 ≤ (ji69)
                            · rw [if_pos c70] at H
                              have c70b0 : decide (0 ≤ (ji69)) = true := decide_eq_true c70
                              clear c70
                              by_cases c71 : (ji69) < (t299.length : Int)
                              · rw [if_pos c71] at H
                                have c71b0 : decide ((ji69) < (t299.length : Int)) = true := decide_eq_true c71
                                clear c71
                                by_cases c72 : (rd t299 (ji69)) ≥ (rd t299 x38_3)
                                · rw [if_pos c72] at H
                                  have c72b0 : decide ((rd t299 x38_3) ≤ (rd t299 (ji69))) = true := decide_eq_true c72
                                  clear c72
                                  obtain rfl := Option.some.inj H
                                  obtain ⟨Ao73, co73, eo73⟩ := Kd.R_slice HO_22.out
                                  subst eo73
                                  have p318 : 0 ≤ (x38_3 : Int) := of_decide_eq_true (by first | (with_reducible assumption) | assumption)
                                  have q318 : x38_3 < (t299.length : Int) := of_decide_eq_true (by first | (with_reducible assumption) | assumption)
                                  obtain ⟨ad318, e318, hx318_0⟩ := Kd.at_int (Kd.R_reads' HO_22.out).2.2 x38_3 p318 q318
                                  cases e318
                                  replace p318 := eq_true p318
                                  replace q318 := eq_true q318
                                  go_wp2_with (first | (go_at_call 36; (with_reducible refine (laws_f6abs.calls (wrap64 ((wrap64 (t294 * (rd t299 x38_3))) - (wrap64 (x38_3 * 1296000)))) t319 _ A65.out).mono ?_); rintro e w' ⟨rfl, ⟨nd, rfl⟩⟩; (try first | exact ⟨rfl, _, World.drewN_drewN _ _ _⟩ | exact ⟨rfl, _, Eq.trans (World.drewN_drewN _ _ _) (congrArg (World.drewN _) (Nat.add_assoc _ _ _))⟩); have p320 : 0 ≤ ((ji69) : Int) := of_decide_eq_true (by first | (with_reducible assumption) | assumption); have q320 : (ji69) < (t299.length : Int) := of_decide_eq_true (by first | (with_reducible assumption) | assumption); obtain ⟨ad320, e320, hx320_0⟩ := Kd.at_int (Kd.R_reads' HO_22.out).2.2 (ji69) p320 q320; obtain rfl : ad318 = ad320 := (by injection e320); replace p320 := eq_true p320; replace q320 := eq_true q320; have p321 : 0 ≤ (x38_3 : Int) := of_decide_eq_true (by first | (with_reducible assumption) | assumption); have q321 : x38_3 < (t299.length : Int) := of_decide_eq_true (by first | (with_reducible assumption) | assumption); obtain ⟨ad321, e321, hx321_0⟩ := Kd.at_int (Kd.R_reads' HO_22.out).2.2 x38_3 p321 q321; obtain rfl : ad318 = ad321 := (by injection e321); replace p321 := eq_true p321; replace q321 := eq_true q321))
                                  repeat (go_quiet (first | (go_at_call 36; (try simp only [Go.IntWalk.i64_left]); (with_reducible refine (laws_f6abs.calls (wrap64 ((wrap64 (t294 * (rd t299 x38_3))) - (wrap64 (x38_3 * 1296000)))) t319 _ A65.out).mono ?_); rintro e w' ⟨rfl, ⟨nd, rfl⟩⟩; (try first | exact ⟨rfl, _, World.drewN_drewN _ _ _⟩ | exact ⟨rfl, _, Eq.trans (World.drewN_drewN _ _ _) (congrArg (World.drewN _) (Nat.add_assoc _ _ _))⟩); have p320 : 0 ≤ ((ji69) : Int) := of_decide_eq_true (by first | (with_reducible assumption) | assumption); have q320 : (ji69) < (t299.length : Int) := of_decide_eq_true (by first | (with_reducible assumption) | assumption); obtain ⟨ad320, e320, hx320_0⟩ := Kd.at_int (Kd.R_reads' HO_22.out).2.2 (ji69) p320 q320; obtain rfl : ad318 = ad320 := (by injection e320); replace p320 := eq_true p320; replace q320 := eq_true q320; have p321 : 0 ≤ (x38_3 : Int) := of_decide_eq_true (by first | (with_reducible assumption) | assumption); have q321 : x38_3 < (t299.length : Int) := of_decide_eq_true (by first | (with_reducible assumption) | assumption); obtain ⟨ad321, e321, hx321_0⟩ := Kd.at_int (Kd.R_reads' HO_22.out).2.2 x38_3 p321 q321; obtain rfl : ad318 = ad321 := (by injection e321); replace p321 := eq_true p321; replace q321 := eq_true q321)); try go_wp2_with (first | (go_at_call 36; (try simp only [Go.IntWalk.i64_left]); (with_reducible refine (laws_f6abs.calls (wrap64 ((wrap64 (t294 * (rd t299 x38_3))) - (wrap64 (x38_3 * 1296000)))) t319 _ A65.out).mono ?_); rintro e w' ⟨rfl, ⟨nd, rfl⟩⟩; (try first | exact ⟨rfl, _, World.drewN_drewN _ _ _⟩ | exact ⟨rfl, _, Eq.trans (World.drewN_drewN _ _ _) (congrArg (World.drewN _) (Nat.add_assoc _ _ _))⟩); have p320 : 0 ≤ ((ji69) : Int) := of_decide_eq_true (by first | (with_reducible assumption) | assumption); have q320 : (ji69) < (t299.length : Int) := of_decide_eq_true (by first | (with_reducible assumption) | assumption); obtain ⟨ad320, e320, hx320_0⟩ := Kd.at_int (Kd.R_reads' HO_22.out).2.2 (ji69) p320 q320; obtain rfl : ad318 = ad320 := (by injection e320); replace p320 := eq_true p320; replace q320 := eq_true q320; have p321 : 0 ≤ (x38_3 : Int) := of_decide_eq_true (by first | (with_reducible assumption) | assumption); have q321 : x38_3 < (t299.length : Int) := of_decide_eq_true (by first | (with_reducible assumption) | assumption); obtain ⟨ad321, e321, hx321_0⟩ := Kd.at_int (Kd.R_reads' HO_22.out).2.2 x38_3 p321 q321; obtain rfl : ad318 = ad321 := (by injection e321); replace p321 := eq_true p321; replace q321 := eq_true q321)))
                                  go_ret
                                  exact ⟨by first | rfl | (simp [errW_none, errW_some] <;> rfl) | (simp only [← hji69]; first | rfl | (simp [errW_none, errW_some] <;> rfl)) | (simp [*, errW_none, errW_some] <;> rfl), by repeat (first | (with_reducible first | exact HB.out | apply below_alloc | apply pw_below_drewN | apply below_drew1) | exact HB.out)⟩
                                · rw [if_neg c72] at H
                                  have c72b0 : decide ((rd t299 x38_3) ≤ (rd t299 (ji69))) = false := decide_eq_false c72
                                  clear c72
                                  have H' := Aside0.mk H
                                  clear H
                                  obtain ⟨Ao74, co74, eo74⟩ := Kd.R_slice HO_22.out
                                  subst eo74
                                  have p318 : 0 ≤ (x38_3 : Int) := of_decide_eq_true (by first | (with_reducible assumption) | assumption)
                                  have q318 : x38_3 < (t299.length : Int) := of_decide_eq_true (by first | (with_reducible assumption) | assumption)
                                  obtain ⟨ad318, e318, hx318_0⟩ := Kd.at_int (Kd.R_reads' HO_22.out).2.2 x38_3 p318 q318
                                  cases e318
                                  replace p318 := eq_true p318
                                  replace q318 := eq_true q318
                                  go_wp2_with (first | (go_at_call 36; (with_reducible refine (laws_f6abs.calls (wrap64 ((wrap64 (t294 * (rd t299 x38_3))) - (wrap64 (x38_3 * 1296000)))) t319 _ A65.out).mono ?_); rintro e w' ⟨rfl, ⟨nd, rfl⟩⟩; (try first | exact ⟨rfl, _, World.drewN_drewN _ _ _⟩ | exact ⟨rfl, _, Eq.trans (World.drewN_drewN _ _ _) (congrArg (World.drewN _) (Nat.add_assoc _ _ _))⟩); have p320 : 0 ≤ ((ji69) : Int) := of_decide_eq_true (by first | (with_reducible assumption) | assumption); have q320 : (ji69) < (t299.length : Int) := of_decide_eq_true (by first | (with_reducible assumption) | assumption); obtain ⟨ad320, e320, hx320_0⟩ := Kd.at_int (Kd.R_reads' HO_22.out).2.2 (ji69) p320 q320; obtain rfl : ad318 = ad320 := (by injection e320); replace p320 := eq_true p320; replace q320 := eq_true q320; have p321 : 0 ≤ (x38_3 : Int) := of_decide_eq_true (by first | (with_reducible assumption) | assumption); have q321 : x38_3 < (t299.length : Int) := of_decide_eq_true (by first | (with_reducible assumption) | assumption); obtain ⟨ad321, e321, hx321_0⟩ := Kd.at_int (Kd.R_reads' HO_22.out).2.2 x38_3 p321 q321; obtain rfl : ad318 = ad321 := (by injection e321); replace p321 := eq_true p321; replace q321 := eq_true q321))
                                  repeat (go_quiet (first | (go_at_call 36; (try simp only [Go.IntWalk.i64_left]); (with_reducible refine (laws_f6abs.calls (wrap64 ((wrap64 (t294 * (rd t299 x38_3))) - (wrap64 (x38_3 * 1296000)))) t319 _ A65.out).mono ?_); rintro e w' ⟨rfl, ⟨nd, rfl⟩⟩; (try first | exact ⟨rfl, _, World.drewN_drewN _ _ _⟩ | exact ⟨rfl, _, Eq.trans (World.drewN_drewN _ _ _) (congrArg (World.drewN _) (Nat.add_assoc _ _ _))⟩); have p320 : 0 ≤ ((ji69) : Int) := of_decide_eq_true (by first | (with_reducible assumption) | assumption); have q320 : (ji69) < (t299.length : Int) := of_decide_eq_true (by first | (with_reducible assumption) | assumption); obtain ⟨ad320, e320, hx320_0⟩ := Kd.at_int (Kd.R_reads' HO_22.out).2.2 (ji69) p320 q320; obtain rfl : ad318 = ad320 := (by injection e320); replace p320 := eq_true p320; replace q320 := eq_true q320; have p321 : 0 ≤ (x38_3 : Int) := of_decide_eq_true (by first | (with_reducible assumption) | assumption); have q321 : x38_3 < (t299.length : Int) := of_decide_eq_true (by first | (with_reducible assumption) | assumption); obtain ⟨ad321, e321, hx321_0⟩ := Kd.at_int (Kd.R_reads' HO_22.out).2.2 x38_3 p321 q321; obtain rfl : ad318 = ad321 := (by injection e321); replace p321 := eq_true p321; replace q321 := eq_true q321)); try go_wp2_with (first | (go_at_call 36; (try simp only [Go.IntWalk.i64_left]); (with_reducible refine (laws_f6abs.calls (wrap64 ((wrap64 (t294 * (rd t299 x38_3))) - (wrap64 (x38_3 * 1296000)))) t319 _ A65.out).mono ?_); rintro e w' ⟨rfl, ⟨nd, rfl⟩⟩; (try first | exact ⟨rfl, _, World.drewN_drewN _ _ _⟩ | exact ⟨rfl, _, Eq.trans (World.drewN_drewN _ _ _) (congrArg (World.drewN _) (Nat.add_assoc _ _ _))⟩); have p320 : 0 ≤ ((ji69) : Int) := of_decide_eq_true (by first | (with_reducible assumption) | assumption); have q320 : (ji69) < (t299.length : Int) := of_decide_eq_true (by first | (with_reducible assumption) | assumption); obtain ⟨ad320, e320, hx320_0⟩ := Kd.at_int (Kd.R_reads' HO_22.out).2.2 (ji69) p320 q320; obtain rfl : ad318 = ad320 := (by injection e320); replace p320 := eq_true p320; replace q320 := eq_true q320; have p321 : 0 ≤ (x38_3 : Int) := of_decide_eq_true (by first | (with_reducible assumption) | assumption); have q321 : x38_3 < (t299.length : Int) := of_decide_eq_true (by first | (with_reducible assumption) | assumption); obtain ⟨ad321, e321, hx321_0⟩ := Kd.at_int (Kd.R_reads' HO_22.out).2.2 x38_3 p321 q321; obtain rfl : ad318 = ad321 := (by injection e321); replace p321 := eq_true p321; replace q321 := eq_true q321)))
                                  go_roundg k3
                                  case measure => have := HJ19.out; have := HJ51.out; have := HK3.out; omega
                                  case rel => exact ⟨(wrap64 (x38_3 + 1)), (by first | rfl | (simp; done) | (simp [*]; done)), H', ⟨by have := HJ19.out; have := HJ51.out; have := HK3.out; omega⟩, ⟨by (with_reducible repeat (first | apply Kd.R_alloc | apply Kd.R_drewN | apply Kd.R_drew)); exact HO_22.out⟩, ⟨by repeat (first | (with_reducible first | exact HB.out | apply below_alloc | apply pw_below_drewN | apply below_drew1) | exact HB.out)⟩⟩
                              · rw [if_neg c71] at H
                                exact absurd H (by simp)
                            · rw [if_neg c70] at H
                              exact absurd H (by simp)
                          · rw [if_neg c68] at H
                            have c68b0 : decide (0 < x38_3) = false := decide_eq_false c68
                            clear c68
                            have H' := Aside0.mk H
                            clear H
                            obtain ⟨Ao75, co75, eo75⟩ := Kd.R_slice HO_22.out
                            subst eo75
                            have p318 : 0 ≤ (x38_3 : Int) := of_decide_eq_true (by first | (with_reducible assumption) | assumption)
                            have q318 : x38_3 < (t299.length : Int) := of_decide_eq_true (by first | (with_reducible assumption) | assumption)
                            obtain ⟨ad318, e318, hx318_0⟩ := Kd.at_int (Kd.R_reads' HO_22.out).2.2 x38_3 p318 q318
                            cases e318
                            replace p318 := eq_true p318
                            replace q318 := eq_true q318
                            go_wp2_with (first | (go_at_call 36; (with_reducible refine (laws_f6abs.calls (wrap64 ((wrap64 (t294 * (rd t299 x38_3))) - (wrap64 (x38_3 * 1296000)))) t319 _ A65.out).mono ?_); rintro e w' ⟨rfl, ⟨nd, rfl⟩⟩; (try first | exact ⟨rfl, _, World.drewN_drewN _ _ _⟩ | exact ⟨rfl, _, Eq.trans (World.drewN_drewN _ _ _) (congrArg (World.drewN _) (Nat.add_assoc _ _ _))⟩)))
                            repeat (go_quiet (first | (go_at_call 36; (try simp only [Go.IntWalk.i64_left]); (with_reducible refine (laws_f6abs.calls (wrap64 ((wrap64 (t294 * (rd t299 x38_3))) - (wrap64 (x38_3 * 1296000)))) t319 _ A65.out).mono ?_); rintro e w' ⟨rfl, ⟨nd, rfl⟩⟩; (try first | exact ⟨rfl, _, World.drewN_drewN _ _ _⟩ | exact ⟨rfl, _, Eq.trans (World.drewN_drewN _ _ _) (congrArg (World.drewN _) (Nat.add_assoc _ _ _))⟩))); try go_wp2_with (first | (go_at_call 36; (try simp only [Go.IntWalk.i64_left]); (with_reducible refine (laws_f6abs.calls (wrap64 ((wrap64 (t294 * (rd t299 x38_3))) - (wrap64 (x38_3 * 1296000)))) t319 _ A65.out).mono ?_); rintro e w' ⟨rfl, ⟨nd, rfl⟩⟩; (try first | exact ⟨rfl, _, World.drewN_drewN _ _ _⟩ | exact ⟨rfl, _, Eq.trans (World.drewN_drewN _ _ _) (congrArg (World.drewN _) (Nat.add_assoc _ _ _))⟩))))
                            go_roundg k3
                            case measure => have := HJ19.out; have := HJ51.out; have := HK3.out; omega
                            case rel => exact ⟨(wrap64 (x38_3 + 1)), (by first | rfl | (simp; done) | (simp [*]; done)), H', ⟨by have := HJ19.out; have := HJ51.out; have := HK3.out; omega⟩, ⟨by (with_reducible repeat (first | apply Kd.R_alloc | apply Kd.R_drewN | apply Kd.R_drew)); exact HO_22.out⟩, ⟨by repeat (first | (with_reducible first | exact HB.out | apply below_alloc | apply pw_below_drewN | apply below_drew1) | exact HB.out)⟩⟩
                      · rw [if_neg c64] at H
                        exact absurd H (by simp)
                    · rw [if_neg c63] at H
                      have c63b0 : decide (x38_3 < (t299.length : Int)) = false := decide_eq_false c63
                      clear c63
                      by_cases c76 : (t299.length : Int) = t294
                      · rw [if_pos c76] at H
                        have c76b0 : ((t299.length : Int) == t294) = true := beq_iff_eq.mpr c76
                        have c76b1 : ((t299.length : Int) != t294) = false := bne_eq_false_iff_eq.mpr c76
                        clear c76
                        by_cases c77 : (wrap64 (2 * t311)) > t294
                        · rw [if_pos c77] at H
                          have c77b0 : decide (t294 < (wrap64 (2 * t311))) = true := decide_eq_true c77
                          clear c77
                          obtain rfl := Option.some.inj H
                          obtain ⟨Ao78, co78, eo78⟩ := Kd.R_slice HO_22.out
                          subst eo78
                          go_wp2
                          repeat (go_quiet (fail); try go_wp2)
                          go_ret
                          exact ⟨by first | rfl | (simp [errW_none, errW_some] <;> rfl) | (simp [*, errW_none, errW_some] <;> rfl), by repeat (first | (with_reducible first | exact HB.out | apply below_alloc | apply pw_below_drewN | apply below_drew1) | exact HB.out)⟩
                        · rw [if_neg c77] at H
                          have c77b0 : decide (t294 < (wrap64 (2 * t311))) = false := decide_eq_false c77
                          clear c77
                          by_cases c79 : t281 = 0
                          · rw [if_pos c79] at H
                            have c79b0 : (t281 == 0) = true := beq_iff_eq.mpr c79
                            have c79b1 : (t281 != 0) = false := bne_eq_false_iff_eq.mpr c79
                            clear c79
                            by_cases c80 : t282 ≥ 0
                            · rw [if_pos c80] at H
                              have c80b0 : decide (0 ≤ t282) = true := decide_eq_true c80
                              clear c80
                              by_cases c81 : t282 < 1296000
                              · rw [if_pos c81] at H
                                have c81b0 : decide (t282 < 1296000) = true := decide_eq_true c81
                                clear c81
                                obtain rfl := Option.some.inj H
                                obtain ⟨Ao82, co82, eo82⟩ := Kd.R_slice HO_22.out
                                subst eo82
                                go_wp2
                                repeat (go_quiet (fail); try go_wp2)
                                go_ret
                                exact ⟨by first | rfl | (simp [errW_none, errW_some] <;> rfl) | (simp [*, errW_none, errW_some] <;> rfl), by repeat (first | (with_reducible first | exact HB.out | apply below_alloc | apply pw_below_drewN | apply below_drew1) | exact HB.out)⟩
                              · rw [if_neg c81] at H
                                have c81b0 : decide (t282 < 1296000) = false := decide_eq_false c81
                                clear c81
                                obtain rfl := Option.some.inj H
                                obtain ⟨Ao83, co83, eo83⟩ := Kd.R_slice HO_22.out
                                subst eo83
                                go_wp2
                                repeat (go_quiet (fail); try go_wp2)
                                go_ret
                                exact ⟨by first | rfl | (simp [errW_none, errW_some] <;> rfl) | (simp [*, errW_none, errW_some] <;> rfl), by repeat (first | (with_reducible first | exact HB.out | apply below_alloc | apply pw_below_drewN | apply below_drew1) | exact HB.out)⟩
                            · rw [if_neg c80] at H
                              have c80b0 : decide (0 ≤ t282) = false := decide_eq_false c80
                              clear c80
                              obtain rfl := Option.some.inj H
                              obtain ⟨Ao84, co84, eo84⟩ := Kd.R_slice HO_22.out
                              subst eo84
                              go_wp2
                              repeat (go_quiet (fail); try go_wp2)
                              go_ret
                              exact ⟨by first | rfl | (simp [errW_none, errW_some] <;> rfl) | (simp [*, errW_none, errW_some] <;> rfl), by repeat (first | (with_reducible first | exact HB.out | apply below_alloc | apply pw_below_drewN | apply below_drew1) | exact HB.out)⟩
                          · rw [if_neg c79] at H
                            have c79b0 : (t281 == 0) = false := beq_eq_false_iff_ne.mpr c79
                            have c79b1 : (t281 != 0) = true := bne_iff_ne.mpr c79
                            obtain rfl := Option.some.inj H
                            obtain ⟨Ao85, co85, eo85⟩ := Kd.R_slice HO_22.out
                            subst eo85
                            go_wp2
                            repeat (go_quiet (fail); try go_wp2)
                            go_ret
                            exact ⟨by first | rfl | (simp [errW_none, errW_some] <;> rfl) | (simp [*, errW_none, errW_some] <;> rfl), by repeat (first | (with_reducible first | exact HB.out | apply below_alloc | apply pw_below_drewN | apply below_drew1) | exact HB.out)⟩
                      · rw [if_neg c76] at H
                        have c76b0 : ((t299.length : Int) == t294) = false := beq_eq_false_iff_ne.mpr c76
                        have c76b1 : ((t299.length : Int) != t294) = true := bne_iff_ne.mpr c76
                        obtain rfl := Option.some.inj H
                        obtain ⟨Ao86, co86, eo86⟩ := Kd.R_slice HO_22.out
                        subst eo86
                        go_wp2
                        repeat (go_quiet (fail); try go_wp2)
                        go_ret
                        exact ⟨by first | rfl | (simp [errW_none, errW_some] <;> rfl) | (simp [*, errW_none, errW_some] <;> rfl), by repeat (first | (with_reducible first | exact HB.out | apply below_alloc | apply pw_below_drewN | apply below_drew1) | exact HB.out)⟩
              · rw [if_neg c62] at H
                have c62b0 : (t296 == 0) = false := beq_eq_false_iff_ne.mpr c62
                have c62b1 : (t296 != 0) = true := bne_iff_ne.mpr c62
                by_cases c87 : t281 = 0
                · rw [if_pos c87] at H
                  have c87b0 : (t281 == 0) = true := beq_iff_eq.mpr c87
                  have c87b1 : (t281 != 0) = false := bne_eq_false_iff_eq.mpr c87
                  clear c87
                  by_cases c88 : t282 ≥ 0
                  · rw [if_pos c88] at H
                    have c88b0 : decide (0 ≤ t282) = true := decide_eq_true c88
                    clear c88
                    by_cases c89 : t282 < 1296000
                    · rw [if_pos c89] at H
                      have c89b0 : decide (t282 < 1296000) = true := decide_eq_true c89
                      clear c89
                      obtain rfl := Option.some.inj H
                      go_wp2
                      repeat (go_quiet (fail); try go_wp2)
                      go_ret
                      exact ⟨by first | rfl | (simp [errW_none, errW_some] <;> rfl) | (simp [*, errW_none, errW_some] <;> rfl), by repeat (first | (with_reducible first | exact HB.out | apply below_alloc | apply pw_below_drewN | apply below_drew1) | exact HB.out)⟩
                    · rw [if_neg c89] at H
                      have c89b0 : decide (t282 < 1296000) = false := decide_eq_false c89
                      clear c89
                      obtain rfl := Option.some.inj H
                      go_wp2
                      repeat (go_quiet (fail); try go_wp2)
                      go_ret
                      exact ⟨by first | rfl | (simp [errW_none, errW_some] <;> rfl) | (simp [*, errW_none, errW_some] <;> rfl), by repeat (first | (with_reducible first | exact HB.out | apply below_alloc | apply pw_below_drewN | apply below_drew1) | exact HB.out)⟩
                  · rw [if_neg c88] at H
                    have c88b0 : decide (0 ≤ t282) = false := decide_eq_false c88
                    clear c88
                    obtain rfl := Option.some.inj H
                    go_wp2
                    repeat (go_quiet (fail); try go_wp2)
                    go_ret
                    exact ⟨by first | rfl | (simp [errW_none, errW_some] <;> rfl) | (simp [*, errW_none, errW_some] <;> rfl), by repeat (first | (with_reducible first | exact HB.out | apply below_alloc | apply pw_below_drewN | apply below_drew1) | exact HB.out)⟩
                · rw [if_neg c87] at H
                  have c87b0 : (t281 == 0) = false := beq_eq_false_iff_ne.mpr c87
                  have c87b1 : (t281 != 0) = true := bne_iff_ne.mpr c87
                  obtain rfl := Option.some.inj H
                  go_wp2
                  repeat (go_quiet (fail); try go_wp2)
                  go_ret
                  exact ⟨by first | rfl | (simp [errW_none, errW_some] <;> rfl) | (simp [*, errW_none, errW_some] <;> rfl), by repeat (first | (with_reducible first | exact HB.out | apply below_alloc | apply pw_below_drewN | apply below_drew1) | exact HB.out)⟩

/-- THE ONE PURE STATEMENT of laws_FnCalendars: yours. -/
def laws_FnCalendars.Pure : Prop := ∀ (l0 : List Int), l0.length ≤ maxLen → l0.length * 1 ≤ 140737488351232 → (∀ x ∈ l0, (Lit.int .u8 x).wf = true) → ∃ k, laws_FnCalendars.f k l0 = some true
theorem laws_FnCalendars.walk (P : laws_FnCalendars.Pure) (a0 : Option Addr) (len0 cap0 : Nat) (z0 : List Int) (w : World) (w0 : (a0 = none ∧ len0 = 0 ∧ cap0 = 0 ∧ z0 = []) ∨ ∃ x, a0 = some x ∧ len0 ≤ cap0 ∧ cap0 ≤ maxLen ∧ z0.length = cap0 ∧ (∀ i, i < z0.length → w.cell? (x.add i) = some (.int .u8 (z0.getD i 0))) ∧ ∀ n ∈ z0, (Lit.int .u8 n).wf = true) (y0 : len0 * 1 ≤ 140737488351232) :
    Calls Try.prog 9 #[.slice a0 len0 cap0] w fun e w' => e = .returned (.bool true) ∧ Below w.heap.size w w' := by
  obtain ⟨l0, rfl, hr0, hm0, hw0, hc0⟩ := ReadsInt.ofRowC w0
  obtain ⟨k, h⟩ := P l0 hm0 y0 hw0
  refine (laws_FnCalendars.calls k _ _ l0 true w (Kd.C_of_reads (d := (0 : Int)) (h1 := fun _ => rfl) hr0) hc0 h).mono ?_
  rintro e w' ⟨rfl, hd⟩
  exact ⟨rfl, hd⟩

end Go.Proofs.Ytncejfhmachapaa.QFnCalendars
