/- Walks of the Go functions that the law FnSuns reaches: written by a program of this session. -/
import Derived.Test.YtibbbeidbapfeaaQFnSunsx0
import Derived.Test.YtibbbeidbapfeaaQFnSunsx1
import Derived.Test.YtibbbeidbapfeaaQFnSunsx2
import Derived.Test.YtibbbeidbapfeaaQFnSunsx3
import Derived.Test.YtibbbeidbapfeaaQFnSunsx4
namespace Go.Proofs.Ytibbbeidbapfeaa.QFnSuns
open Go.RowKit Go.Proofs.YtibbbeidbapfeaaW.PrintWords Go.Proofs.YtibbbeidbapfeaaW.PrintLast Go.Proofs.YtibbbeidbapfeaaW.PrintMore
attribute [local go_sem] max2_int min2_int max_two min_two max_three min_three max_four min_four   -- for this text's walks alone
set_option linter.unusedVariables false
set_option linter.unusedSimpArgs false

/-! ### laws_FnSuns: function 14 -/
mutual
def laws_FnSuns.j0 : Nat → Int → Int → Int → Int → Int → Bool → Option (Bool)
  | 0, _, _, _, _, _, _ => none
  | k + 1, x5, x6, x7, x9, x10, x106 => if x106 = true then (some false) else ((spec_SunDeclination.f k x9).bind fun bt205 => ((impl_UpAngle.f k x5 bt205.1).bind fun bt207 => ((impl_LatitudeForDay.f k x6).bind fun bt209 => (if bt205.2 = 0 then (if bt207.2 = 0 then (laws_FnSuns.j1 k x7 bt209.1 bt209.2 (bt207.1 != x10)) else (laws_FnSuns.j1 k x7 bt209.1 bt209.2 true)) else (laws_FnSuns.j1 k x7 bt209.1 bt209.2 true)))))
def laws_FnSuns.j1 : Nat → Int → Int → Int → Bool → Option (Bool)
  | 0, _, _, _, _ => none
  | k + 1, x7, x20, x21, x133 => if x133 = true then (some false) else (if x21 = 0 then (if x20 < 0 then (laws_FnSuns.j2 k x7 x20 true) else (laws_FnSuns.j2 k x7 x20 (decide (x20 > 324000)))) else ((spec_UpAngle.f k 324000 x7).bind fun bt211 => (if x21 = 3 then (if bt211.2 = 0 then (some (bt211.1 != 1296000)) else (some false)) else (some false))))
def laws_FnSuns.j2 : Nat → Int → Int → Bool → Option (Bool)
  | 0, _, _, _ => none
  | k + 1, x7, x20, x156 => if x156 = true then (some false) else ((spec_UpAngle.f k x20 x7).bind fun bt213 => (if bt213.2 = 0 then (laws_FnSuns.j3 k x7 x20 (bt213.1 != 1296000)) else (laws_FnSuns.j3 k x7 x20 true)))
def laws_FnSuns.j3 : Nat → Int → Int → Bool → Option (Bool)
  | 0, _, _, _ => none
  | k + 1, x7, x20, x168 => if x168 = true then (some false) else (if x20 = 0 then (some true) else ((spec_UpAngle.f k (wrap64 (x20 - 1)) x7).bind fun bt215 => (if bt215.2 = 0 then (some (bt215.1 != 1296000)) else (some false))))
end
def laws_FnSuns.f (k : Nat) (l0 : List Int) (l1 : List Int) : Option (Bool) := (laws_a2Long.f l0 l1).bind fun t193 => (if t193 = true then (some true) else ((spec_A2Lat.f l0).bind fun t194 => ((laws_a2At.f l1 0 365).bind fun t195 => ((impl_SunDeclination.f k t195).bind fun bt196 => ((impl_LongestDay.f k t194).bind fun bt198 => ((impl_UpAngle.f k t194 bt196.1).bind fun bt201 => ((impl_WhiteNights.f k t194).bind fun bt203 => (if bt196.2 = 0 then (if bt196.1 < (-84600) then (laws_FnSuns.j0 k t194 t195 bt196.1 bt198.1 bt198.2.1 true) else (if bt196.1 > 84600 then (laws_FnSuns.j0 k t194 t195 bt196.1 bt198.1 bt198.2.1 true) else (if bt198.2.2 = 0 then (if bt198.1 < 0 then (laws_FnSuns.j0 k t194 t195 bt196.1 bt198.1 bt198.2.1 true) else (if bt198.1 > 364 then (laws_FnSuns.j0 k t194 t195 bt196.1 bt198.1 bt198.2.1 true) else (if bt201.2 = 0 then (if bt201.1 > bt198.2.1 then (laws_FnSuns.j0 k t194 t195 bt196.1 bt198.1 bt198.2.1 true) else (if bt203.2 = 0 then (if bt203.1 < 0 then (laws_FnSuns.j0 k t194 t195 bt196.1 bt198.1 bt198.2.1 true) else (if bt203.1 > 365 then (laws_FnSuns.j0 k t194 t195 bt196.1 bt198.1 bt198.2.1 true) else (laws_FnSuns.j0 k t194 t195 bt196.1 bt198.1 bt198.2.1 ((decide (bt203.1 > 0)) != (bt198.2.1 == 1296000))))) else (laws_FnSuns.j0 k t194 t195 bt196.1 bt198.1 bt198.2.1 true))) else (laws_FnSuns.j0 k t194 t195 bt196.1 bt198.1 bt198.2.1 true)))) else (laws_FnSuns.j0 k t194 t195 bt196.1 bt198.1 bt198.2.1 true)))) else (laws_FnSuns.j0 k t194 t195 bt196.1 bt198.1 bt198.2.1 true)))))))))
theorem laws_FnSuns.mono_l : ∀ k, (∀ y0 y1 y2 y3 y4 y5, LeO (laws_FnSuns.j0 k y0 y1 y2 y3 y4 y5) (laws_FnSuns.j0 (k + 1) y0 y1 y2 y3 y4 y5)) ∧ (∀ y0 y1 y2 y3, LeO (laws_FnSuns.j1 k y0 y1 y2 y3) (laws_FnSuns.j1 (k + 1) y0 y1 y2 y3)) ∧ (∀ y0 y1 y2, LeO (laws_FnSuns.j2 k y0 y1 y2) (laws_FnSuns.j2 (k + 1) y0 y1 y2)) ∧ (∀ y0 y1 y2, LeO (laws_FnSuns.j3 k y0 y1 y2) (laws_FnSuns.j3 (k + 1) y0 y1 y2))
  | 0 => ⟨fun _ _ _ _ _ _ r h => by simp [laws_FnSuns.j0] at h, fun _ _ _ _ r h => by simp [laws_FnSuns.j1] at h, fun _ _ _ r h => by simp [laws_FnSuns.j2] at h, fun _ _ _ r h => by simp [laws_FnSuns.j3] at h⟩
  | k + 1 => by
    obtain ⟨ih0, ih1, ih2, ih3⟩ := laws_FnSuns.mono_l k
    refine ⟨?_, ?_, ?_, ?_⟩
    · intro y0 y1 y2 y3 y4 y5
      unfold laws_FnSuns.j0
      repeat' first
      | (with_reducible exact ih0 _ _ _ _ _ _)
      | (with_reducible exact ih1 _ _ _ _)
      | (with_reducible exact ih2 _ _ _)
      | (with_reducible exact ih3 _ _ _)
      | (with_reducible exact impl_LatitudeForDay.mono _ _)
      | (with_reducible exact impl_LongestDay.mono _ _)
      | (with_reducible exact impl_SunDeclination.mono _ _)
      | (with_reducible exact impl_UpAngle.mono _ _ _)
      | (with_reducible exact impl_WhiteNights.mono _ _)
      | (with_reducible exact spec_SunDeclination.mono _ _)
      | (with_reducible exact spec_UpAngle.mono _ _ _)
      | (with_reducible exact LeO.refl _)
      | (with_reducible exact LeO.none _)
      | (with_reducible refine LeO.ite ?_ ?_)
      | (with_reducible refine LeO.bind ?_ (fun _ => ?_))
      | exact ih0 _ _ _ _ _ _
      | exact ih1 _ _ _ _
      | exact ih2 _ _ _
      | exact ih3 _ _ _
      | exact impl_LatitudeForDay.mono _ _
      | exact impl_LongestDay.mono _ _
      | exact impl_SunDeclination.mono _ _
      | exact impl_UpAngle.mono _ _ _
      | exact impl_WhiteNights.mono _ _
      | exact spec_SunDeclination.mono _ _
      | exact spec_UpAngle.mono _ _ _
      | exact LeO.none _
      | refine LeO.ite ?_ ?_
      | refine LeO.bind ?_ (fun _ => ?_)
    · intro y0 y1 y2 y3
      unfold laws_FnSuns.j1
      repeat' first
      | (with_reducible exact ih0 _ _ _ _ _ _)
      | (with_reducible exact ih1 _ _ _ _)
      | (with_reducible exact ih2 _ _ _)
      | (with_reducible exact ih3 _ _ _)
      | (with_reducible exact impl_LatitudeForDay.mono _ _)
      | (with_reducible exact impl_LongestDay.mono _ _)
      | (with_reducible exact impl_SunDeclination.mono _ _)
      | (with_reducible exact impl_UpAngle.mono _ _ _)
      | (with_reducible exact impl_WhiteNights.mono _ _)
      | (with_reducible exact spec_SunDeclination.mono _ _)
      | (with_reducible exact spec_UpAngle.mono _ _ _)
      | (with_reducible exact LeO.refl _)
      | (with_reducible exact LeO.none _)
      | (with_reducible refine LeO.ite ?_ ?_)
      | (with_reducible refine LeO.bind ?_ (fun _ => ?_))
      | exact ih0 _ _ _ _ _ _
      | exact ih1 _ _ _ _
      | exact ih2 _ _ _
      | exact ih3 _ _ _
      | exact impl_LatitudeForDay.mono _ _
      | exact impl_LongestDay.mono _ _
      | exact impl_SunDeclination.mono _ _
      | exact impl_UpAngle.mono _ _ _
      | exact impl_WhiteNights.mono _ _
      | exact spec_SunDeclination.mono _ _
      | exact spec_UpAngle.mono _ _ _
      | exact LeO.none _
      | refine LeO.ite ?_ ?_
      | refine LeO.bind ?_ (fun _ => ?_)
    · intro y0 y1 y2
      unfold laws_FnSuns.j2
      repeat' first
      | (with_reducible exact ih0 _ _ _ _ _ _)
      | (with_reducible exact ih1 _ _ _ _)
      | (with_reducible exact ih2 _ _ _)
      | (with_reducible exact ih3 _ _ _)
      | (with_reducible exact impl_LatitudeForDay.mono _ _)
      | (with_reducible exact impl_LongestDay.mono _ _)
      | (with_reducible exact impl_SunDeclination.mono _ _)
      | (with_reducible exact impl_UpAngle.mono _ _ _)
      | (with_reducible exact impl_WhiteNights.mono _ _)
      | (with_reducible exact spec_SunDeclination.mono _ _)
      | (with_reducible exact spec_UpAngle.mono _ _ _)
      | (with_reducible exact LeO.refl _)
      | (with_reducible exact LeO.none _)
      | (with_reducible refine LeO.ite ?_ ?_)
      | (with_reducible refine LeO.bind ?_ (fun _ => ?_))
      | exact ih0 _ _ _ _ _ _
      | exact ih1 _ _ _ _
      | exact ih2 _ _ _
      | exact ih3 _ _ _
      | exact impl_LatitudeForDay.mono _ _
      | exact impl_LongestDay.mono _ _
      | exact impl_SunDeclination.mono _ _
      | exact impl_UpAngle.mono _ _ _
      | exact impl_WhiteNights.mono _ _
      | exact spec_SunDeclination.mono _ _
      | exact spec_UpAngle.mono _ _ _
      | exact LeO.none _
      | refine LeO.ite ?_ ?_
      | refine LeO.bind ?_ (fun _ => ?_)
    · intro y0 y1 y2
      unfold laws_FnSuns.j3
      repeat' first
      | (with_reducible exact ih0 _ _ _ _ _ _)
      | (with_reducible exact ih1 _ _ _ _)
      | (with_reducible exact ih2 _ _ _)
      | (with_reducible exact ih3 _ _ _)
      | (with_reducible exact impl_LatitudeForDay.mono _ _)
      | (with_reducible exact impl_LongestDay.mono _ _)
      | (with_reducible exact impl_SunDeclination.mono _ _)
      | (with_reducible exact impl_UpAngle.mono _ _ _)
      | (with_reducible exact impl_WhiteNights.mono _ _)
      | (with_reducible exact spec_SunDeclination.mono _ _)
      | (with_reducible exact spec_UpAngle.mono _ _ _)
      | (with_reducible exact LeO.refl _)
      | (with_reducible exact LeO.none _)
      | (with_reducible refine LeO.ite ?_ ?_)
      | (with_reducible refine LeO.bind ?_ (fun _ => ?_))
      | exact ih0 _ _ _ _ _ _
      | exact ih1 _ _ _ _
      | exact ih2 _ _ _
      | exact ih3 _ _ _
      | exact impl_LatitudeForDay.mono _ _
      | exact impl_LongestDay.mono _ _
      | exact impl_SunDeclination.mono _ _
      | exact impl_UpAngle.mono _ _ _
      | exact impl_WhiteNights.mono _ _
      | exact spec_SunDeclination.mono _ _
      | exact spec_UpAngle.mono _ _ _
      | exact LeO.none _
      | refine LeO.ite ?_ ?_
      | refine LeO.bind ?_ (fun _ => ?_)
theorem laws_FnSuns.mono : ∀ a0 a1 k, LeO (laws_FnSuns.f k a0 a1) (laws_FnSuns.f (k + 1) a0 a1) := by
  intro a0 a1 k
  obtain ⟨ih0, ih1, ih2, ih3⟩ := laws_FnSuns.mono_l k
  unfold laws_FnSuns.f
  repeat' first
      | (with_reducible exact ih0 _ _ _ _ _ _)
      | (with_reducible exact ih1 _ _ _ _)
      | (with_reducible exact ih2 _ _ _)
      | (with_reducible exact ih3 _ _ _)
      | (with_reducible exact impl_LatitudeForDay.mono _ _)
      | (with_reducible exact impl_LongestDay.mono _ _)
      | (with_reducible exact impl_SunDeclination.mono _ _)
      | (with_reducible exact impl_UpAngle.mono _ _ _)
      | (with_reducible exact impl_WhiteNights.mono _ _)
      | (with_reducible exact spec_SunDeclination.mono _ _)
      | (with_reducible exact spec_UpAngle.mono _ _ _)
      | (with_reducible exact LeO.refl _)
      | (with_reducible exact LeO.none _)
      | (with_reducible refine LeO.ite ?_ ?_)
      | (with_reducible refine LeO.bind ?_ (fun _ => ?_))
      | exact ih0 _ _ _ _ _ _
      | exact ih1 _ _ _ _
      | exact ih2 _ _ _
      | exact ih3 _ _ _
      | exact impl_LatitudeForDay.mono _ _
      | exact impl_LongestDay.mono _ _
      | exact impl_SunDeclination.mono _ _
      | exact impl_UpAngle.mono _ _ _
      | exact impl_WhiteNights.mono _ _
      | exact spec_SunDeclination.mono _ _
      | exact spec_UpAngle.mono _ _ _
      | exact LeO.none _
      | refine LeO.ite ?_ ?_
      | refine LeO.bind ?_ (fun _ => ?_)
set_option maxHeartbeats 8000000 in
set_option maxRecDepth 100000 in
theorem laws_FnSuns.calls (k : Nat) (A0 : Option Addr) (c0 : Nat) (l0 : List Int) (A1 : Option Addr) (c1 : Nat) (l1 : List Int) (r : Bool) (w : World) (hr0 : Kd.C (Kd.int .u8) w A0 l0.length l0) (hc0 : l0.length ≤ c0) (hr1 : Kd.C (Kd.int .u8) w A1 l1.length l1) (hc1 : l1.length ≤ c1) (h : laws_FnSuns.f k l0 l1 = some r) :
    Calls Try.prog 14 #[.slice A0 l0.length c0, .slice A1 l1.length c1] w fun e w' => e = .returned (.bool r) ∧ Below w.heap.size w w' := by
  have HR0 := Aside0.mk hr0
  have HC0 := Aside0.mk hc0
  clear hr0 hc0
  have HR1 := Aside0.mk hr1
  have HC1 := Aside0.mk hc1
  clear hr1 hc1
  have HB := Aside0.mk (Below.refl w.heap.size w)
  have H : ((laws_a2Long.f l0 l1).bind fun t193 => (if t193 = true then (some true) else ((spec_A2Lat.f l0).bind fun t194 => ((laws_a2At.f l1 0 365).bind fun t195 => ((impl_SunDeclination.f k t195).bind fun bt196 => ((impl_LongestDay.f k t194).bind fun bt198 => ((impl_UpAngle.f k t194 bt196.1).bind fun bt201 => ((impl_WhiteNights.f k t194).bind fun bt203 => (if bt196.2 = 0 then (if bt196.1 < (-84600) then (laws_FnSuns.j0 k t194 t195 bt196.1 bt198.1 bt198.2.1 true) else (if bt196.1 > 84600 then (laws_FnSuns.j0 k t194 t195 bt196.1 bt198.1 bt198.2.1 true) else (if bt198.2.2 = 0 then (if bt198.1 < 0 then (laws_FnSuns.j0 k t194 t195 bt196.1 bt198.1 bt198.2.1 true) else (if bt198.1 > 364 then (laws_FnSuns.j0 k t194 t195 bt196.1 bt198.1 bt198.2.1 true) else (if bt201.2 = 0 then (if bt201.1 > bt198.2.1 then (laws_FnSuns.j0 k t194 t195 bt196.1 bt198.1 bt198.2.1 true) else (if bt203.2 = 0 then (if bt203.1 < 0 then (laws_FnSuns.j0 k t194 t195 bt196.1 bt198.1 bt198.2.1 true) else (if bt203.1 > 365 then (laws_FnSuns.j0 k t194 t195 bt196.1 bt198.1 bt198.2.1 true) else (laws_FnSuns.j0 k t194 t195 bt196.1 bt198.1 bt198.2.1 ((decide (bt203.1 > 0)) != (bt198.2.1 == 1296000))))) else (laws_FnSuns.j0 k t194 t195 bt196.1 bt198.1 bt198.2.1 true))) else (laws_FnSuns.j0 k t194 t195 bt196.1 bt198.1 bt198.2.1 true)))) else (laws_FnSuns.j0 k t194 t195 bt196.1 bt198.1 bt198.2.1 true)))) else (laws_FnSuns.j0 k t194 t195 bt196.1 bt198.1 bt198.2.1 true)))))))))) = some r := h
  clear h
  replace H := Option.bind_eq_some_iff.mp H
  obtain ⟨t193, A30, H⟩ := H
  replace H : (if t193 = true then (some true) else ((spec_A2Lat.f l0).bind fun t194 => ((laws_a2At.f l1 0 365).bind fun t195 => ((impl_SunDeclination.f k t195).bind fun bt196 => ((impl_LongestDay.f k t194).bind fun bt198 => ((impl_UpAngle.f k t194 bt196.1).bind fun bt201 => ((impl_WhiteNights.f k t194).bind fun bt203 => (if bt196.2 = 0 then (if bt196.1 < (-84600) then (laws_FnSuns.j0 k t194 t195 bt196.1 bt198.1 bt198.2.1 true) else (if bt196.1 > 84600 then (laws_FnSuns.j0 k t194 t195 bt196.1 bt198.1 bt198.2.1 true) else (if bt198.2.2 = 0 then (if bt198.1 < 0 then (laws_FnSuns.j0 k t194 t195 bt196.1 bt198.1 bt198.2.1 true) else (if bt198.1 > 364 then (laws_FnSuns.j0 k t194 t195 bt196.1 bt198.1 bt198.2.1 true) else (if bt201.2 = 0 then (if bt201.1 > bt198.2.1 then (laws_FnSuns.j0 k t194 t195 bt196.1 bt198.1 bt198.2.1 true) else (if bt203.2 = 0 then (if bt203.1 < 0 then (laws_FnSuns.j0 k t194 t195 bt196.1 bt198.1 bt198.2.1 true) else (if bt203.1 > 365 then (laws_FnSuns.j0 k t194 t195 bt196.1 bt198.1 bt198.2.1 true) else (laws_FnSuns.j0 k t194 t195 bt196.1 bt198.1 bt198.2.1 ((decide (bt203.1 > 0)) != (bt198.2.1 == 1296000))))) else (laws_FnSuns.j0 k t194 t195 bt196.1 bt198.1 bt198.2.1 true))) else (laws_FnSuns.j0 k t194 t195 bt196.1 bt198.1 bt198.2.1 true)))) else (laws_FnSuns.j0 k t194 t195 bt196.1 bt198.1 bt198.2.1 true)))) else (laws_FnSuns.j0 k t194 t195 bt196.1 bt198.1 bt198.2.1 true))))))))) = some r := H
  have A3 := Aside0.mk A30
  clear A30
  by_cases c4 : t193 = true
  · subst c4
    have H1 : (some true) = some r := by rw [if_pos rfl] at H; exact H
    clear H
    have H := H1
    clear H1
    obtain rfl := Option.some.inj H
    go_enter Try.func14, Try.ntmps14
    go_wp2_with (first | ((with_reducible refine gate_callee (f := 25) rfl ?_); refine goesL_ (some 30) rfl rfl Try.func25 (by kernel_rfl) rfl #[.slice A0 l0.length c0, .slice A1 l1.length c1] rfl (by (try simp only [List.map_toArray, List.map_cons, List.map_nil]); first | done | rfl | (simp only [List.length_drop, List.length_take]; rfl)) ?_; (with_reducible refine (laws_a2Long.calls _ _ l0 _ _ l1 true _ ?side1 ?side2 ?side3 ?side4 A3.out).mono ?_); (case side1 => repeat (first | exact HR0.out | (with_reducible refine Kd.C_alloc ?_ _) | (with_reducible refine Kd.C_drewN ?_ _) | (with_reducible refine Kd.C_drew ?_))); (case side2 => exact HC0.out); (case side3 => repeat (first | exact HR1.out | (with_reducible refine Kd.C_alloc ?_ _) | (with_reducible refine Kd.C_drewN ?_ _) | (with_reducible refine Kd.C_drew ?_))); (case side4 => exact HC1.out); rintro e w' ⟨rfl, ⟨nd, rfl⟩⟩; refine ⟨_, rfl, ?_⟩))
    go_ret
    exact ⟨by first | rfl | (simp [errW_none, errW_some] <;> rfl) | (simp [*, errW_none, errW_some] <;> rfl), by repeat (first | (with_reducible first | exact HB.out | apply below_alloc | apply pw_below_drewN | apply below_drew1) | exact HB.out)⟩
  · replace c4 := Bool.eq_false_iff.mpr c4
    subst c4
    have H1 : ((spec_A2Lat.f l0).bind fun t194 => ((laws_a2At.f l1 0 365).bind fun t195 => ((impl_SunDeclination.f k t195).bind fun bt196 => ((impl_LongestDay.f k t194).bind fun bt198 => ((impl_UpAngle.f k t194 bt196.1).bind fun bt201 => ((impl_WhiteNights.f k t194).bind fun bt203 => (if bt196.2 = 0 then (if bt196.1 < (-84600) then (laws_FnSuns.j0 k t194 t195 bt196.1 bt198.1 bt198.2.1 true) else (if bt196.1 > 84600 then (laws_FnSuns.j0 k t194 t195 bt196.1 bt198.1 bt198.2.1 true) else (if bt198.2.2 = 0 then (if bt198.1 < 0 then (laws_FnSuns.j0 k t194 t195 bt196.1 bt198.1 bt198.2.1 true) else (if bt198.1 > 364 then (laws_FnSuns.j0 k t194 t195 bt196.1 bt198.1 bt198.2.1 true) else (if bt201.2 = 0 then (if bt201.1 > bt198.2.1 then (laws_FnSuns.j0 k t194 t195 bt196.1 bt198.1 bt198.2.1 true) else (if bt203.2 = 0 then (if bt203.1 < 0 then (laws_FnSuns.j0 k t194 t195 bt196.1 bt198.1 bt198.2.1 true) else (if bt203.1 > 365 then (laws_FnSuns.j0 k t194 t195 bt196.1 bt198.1 bt198.2.1 true) else (laws_FnSuns.j0 k t194 t195 bt196.1 bt198.1 bt198.2.1 ((decide (bt203.1 > 0)) != (bt198.2.1 == 1296000))))) else (laws_FnSuns.j0 k t194 t195 bt196.1 bt198.1 bt198.2.1 true))) else (laws_FnSuns.j0 k t194 t195 bt196.1 bt198.1 bt198.2.1 true)))) else (laws_FnSuns.j0 k t194 t195 bt196.1 bt198.1 bt198.2.1 true)))) else (laws_FnSuns.j0 k t194 t195 bt196.1 bt198.1 bt198.2.1 true)))))))) = some r := by rw [if_neg (show ¬ (false = true) by decide)] at H; exact H
    clear H
    have H := H1
    clear H1
    replace H := Option.bind_eq_some_iff.mp H
    obtain ⟨t194, A50, H⟩ := H
    replace H : ((laws_a2At.f l1 0 365).bind fun t195 => ((impl_SunDeclination.f k t195).bind fun bt196 => ((impl_LongestDay.f k t194).bind fun bt198 => ((impl_UpAngle.f k t194 bt196.1).bind fun bt201 => ((impl_WhiteNights.f k t194).bind fun bt203 => (if bt196.2 = 0 then (if bt196.1 < (-84600) then (laws_FnSuns.j0 k t194 t195 bt196.1 bt198.1 bt198.2.1 true) else (if bt196.1 > 84600 then (laws_FnSuns.j0 k t194 t195 bt196.1 bt198.1 bt198.2.1 true) else (if bt198.2.2 = 0 then (if bt198.1 < 0 then (laws_FnSuns.j0 k t194 t195 bt196.1 bt198.1 bt198.2.1 true) else (if bt198.1 > 364 then (laws_FnSuns.j0 k t194 t195 bt196.1 bt198.1 bt198.2.1 true) else (if bt201.2 = 0 then (if bt201.1 > bt198.2.1 then (laws_FnSuns.j0 k t194 t195 bt196.1 bt198.1 bt198.2.1 true) else (if bt203.2 = 0 then (if bt203.1 < 0 then (laws_FnSuns.j0 k t194 t195 bt196.1 bt198.1 bt198.2.1 true) else (if bt203.1 > 365 then (laws_FnSuns.j0 k t194 t195 bt196.1 bt198.1 bt198.2.1 true) else (laws_FnSuns.j0 k t194 t195 bt196.1 bt198.1 bt198.2.1 ((decide (bt203.1 > 0)) != (bt198.2.1 == 1296000))))) else (laws_FnSuns.j0 k t194 t195 bt196.1 bt198.1 bt198.2.1 true))) else (laws_FnSuns.j0 k t194 t195 bt196.1 bt198.1 bt198.2.1 true)))) else (laws_FnSuns.j0 k t194 t195 bt196.1 bt198.1 bt198.2.1 true)))) else (laws_FnSuns.j0 k t194 t195 bt196.1 bt198.1 bt198.2.1 true))))))) = some r := H
    have A5 := Aside0.mk A50
    clear A50
    replace H := Option.bind_eq_some_iff.mp H
    obtain ⟨t195, A60, H⟩ := H
    replace H : ((impl_SunDeclination.f k t195).bind fun bt196 => ((impl_LongestDay.f k t194).bind fun bt198 => ((impl_UpAngle.f k t194 bt196.1).bind fun bt201 => ((impl_WhiteNights.f k t194).bind fun bt203 => (if bt196.2 = 0 then (if bt196.1 < (-84600) then (laws_FnSuns.j0 k t194 t195 bt196.1 bt198.1 bt198.2.1 true) else (if bt196.1 > 84600 then (laws_FnSuns.j0 k t194 t195 bt196.1 bt198.1 bt198.2.1 true) else (if bt198.2.2 = 0 then (if bt198.1 < 0 then (laws_FnSuns.j0 k t194 t195 bt196.1 bt198.1 bt198.2.1 true) else (if bt198.1 > 364 then (laws_FnSuns.j0 k t194 t195 bt196.1 bt198.1 bt198.2.1 true) else (if bt201.2 = 0 then (if bt201.1 > bt198.2.1 then (laws_FnSuns.j0 k t194 t195 bt196.1 bt198.1 bt198.2.1 true) else (if bt203.2 = 0 then (if bt203.1 < 0 then (laws_FnSuns.j0 k t194 t195 bt196.1 bt198.1 bt198.2.1 true) else (if bt203.1 > 365 then (laws_FnSuns.j0 k t194 t195 bt196.1 bt198.1 bt198.2.1 true) else (laws_FnSuns.j0 k t194 t195 bt196.1 bt198.1 bt198.2.1 ((decide (bt203.1 > 0)) != (bt198.2.1 == 1296000))))) else (laws_FnSuns.j0 k t194 t195 bt196.1 bt198.1 bt198.2.1 true))) else (laws_FnSuns.j0 k t194 t195 bt196.1 bt198.1 bt198.2.1 true)))) else (laws_FnSuns.j0 k t194 t195 bt196.1 bt198.1 bt198.2.1 true)))) else (laws_FnSuns.j0 k t194 t195 bt196.1 bt198.1 bt198.2.1 true)))))) = some r := H
    have A6 := Aside0.mk A60
    clear A60
    replace H := Option.bind_eq_some_iff.mp H
    obtain ⟨⟨t196, t197⟩, A70, H⟩ := H
    replace H : ((impl_LongestDay.f k t194).bind fun bt198 => ((impl_UpAngle.f k t194 t196).bind fun bt201 => ((impl_WhiteNights.f k t194).bind fun bt203 => (if t197 = 0 then (if t196 < (-84600) then (laws_FnSuns.j0 k t194 t195 t196 bt198.1 bt198.2.1 true) else (if t196 > 84600 then (laws_FnSuns.j0 k t194 t195 t196 bt198.1 bt198.2.1 true) else (if bt198.2.2 = 0 then (if bt198.1 < 0 then (laws_FnSuns.j0 k t194 t195 t196 bt198.1 bt198.2.1 true) else (if bt198.1 > 364 then (laws_FnSuns.j0 k t194 t195 t196 bt198.1 bt198.2.1 true) else (if bt201.2 = 0 then (if bt201.1 > bt198.2.1 then (laws_FnSuns.j0 k t194 t195 t196 bt198.1 bt198.2.1 true) else (if bt203.2 = 0 then (if bt203.1 < 0 then (laws_FnSuns.j0 k t194 t195 t196 bt198.1 bt198.2.1 true) else (if bt203.1 > 365 then (laws_FnSuns.j0 k t194 t195 t196 bt198.1 bt198.2.1 true) else (laws_FnSuns.j0 k t194 t195 t196 bt198.1 bt198.2.1 ((decide (bt203.1 > 0)) != (bt198.2.1 == 1296000))))) else (laws_FnSuns.j0 k t194 t195 t196 bt198.1 bt198.2.1 true))) else (laws_FnSuns.j0 k t194 t195 t196 bt198.1 bt198.2.1 true)))) else (laws_FnSuns.j0 k t194 t195 t196 bt198.1 bt198.2.1 true)))) else (laws_FnSuns.j0 k t194 t195 t196 bt198.1 bt198.2.1 true))))) = some r := H
    have A7 := Aside0.mk A70
    clear A70
    replace H := Option.bind_eq_some_iff.mp H
    obtain ⟨⟨t198, t199, t200⟩, A80, H⟩ := H
    replace H : ((impl_UpAngle.f k t194 t196).bind fun bt201 => ((impl_WhiteNights.f k t194).bind fun bt203 => (if t197 = 0 then (if t196 < (-84600) then (laws_FnSuns.j0 k t194 t195 t196 t198 t199 true) else (if t196 > 84600 then (laws_FnSuns.j0 k t194 t195 t196 t198 t199 true) else (if t200 = 0 then (if t198 < 0 then (laws_FnSuns.j0 k t194 t195 t196 t198 t199 true) else (if t198 > 364 then (laws_FnSuns.j0 k t194 t195 t196 t198 t199 true) else (if bt201.2 = 0 then (if bt201.1 > t199 then (laws_FnSuns.j0 k t194 t195 t196 t198 t199 true) else (if bt203.2 = 0 then (if bt203.1 < 0 then (laws_FnSuns.j0 k t194 t195 t196 t198 t199 true) else (if bt203.1 > 365 then (laws_FnSuns.j0 k t194 t195 t196 t198 t199 true) else (laws_FnSuns.j0 k t194 t195 t196 t198 t199 ((decide (bt203.1 > 0)) != (t199 == 1296000))))) else (laws_FnSuns.j0 k t194 t195 t196 t198 t199 true))) else (laws_FnSuns.j0 k t194 t195 t196 t198 t199 true)))) else (laws_FnSuns.j0 k t194 t195 t196 t198 t199 true)))) else (laws_FnSuns.j0 k t194 t195 t196 t198 t199 true)))) = some r := H
    have A8 := Aside0.mk A80
    clear A80
    replace H := Option.bind_eq_some_iff.mp H
    obtain ⟨⟨t201, t202⟩, A90, H⟩ := H
    replace H : ((impl_WhiteNights.f k t194).bind fun bt203 => (if t197 = 0 then (if t196 < (-84600) then (laws_FnSuns.j0 k t194 t195 t196 t198 t199 true) else (if t196 > 84600 then (laws_FnSuns.j0 k t194 t195 t196 t198 t199 true) else (if t200 = 0 then (if t198 < 0 then (laws_FnSuns.j0 k t194 t195 t196 t198 t199 true) else (if t198 > 364 then (laws_FnSuns.j0 k t194 t195 t196 t198 t199 true) else (if t202 = 0 then (if t201 > t199 then (laws_FnSuns.j0 k t194 t195 t196 t198 t199 true) else (if bt203.2 = 0 then (if bt203.1 < 0 then (laws_FnSuns.j0 k t194 t195 t196 t198 t199 true) else (if bt203.1 > 365 then (laws_FnSuns.j0 k t194 t195 t196 t198 t199 true) else (laws_FnSuns.j0 k t194 t195 t196 t198 t199 ((decide (bt203.1 > 0)) != (t199 == 1296000))))) else (laws_FnSuns.j0 k t194 t195 t196 t198 t199 true))) else (laws_FnSuns.j0 k t194 t195 t196 t198 t199 true)))) else (laws_FnSuns.j0 k t194 t195 t196 t198 t199 true)))) else (laws_FnSuns.j0 k t194 t195 t196 t198 t199 true))) = some r := H
    have A9 := Aside0.mk A90
    clear A90
    replace H := Option.bind_eq_some_iff.mp H
    obtain ⟨⟨t203, t204⟩, A100, H⟩ := H
    replace H : (if t197 = 0 then (if t196 < (-84600) then (laws_FnSuns.j0 k t194 t195 t196 t198 t199 true) else (if t196 > 84600 then (laws_FnSuns.j0 k t194 t195 t196 t198 t199 true) else (if t200 = 0 then (if t198 < 0 then (laws_FnSuns.j0 k t194 t195 t196 t198 t199 true) else (if t198 > 364 then (laws_FnSuns.j0 k t194 t195 t196 t198 t199 true) else (if t202 = 0 then (if t201 > t199 then (laws_FnSuns.j0 k t194 t195 t196 t198 t199 true) else (if t204 = 0 then (if t203 < 0 then (laws_FnSuns.j0 k t194 t195 t196 t198 t199 true) else (if t203 > 365 then (laws_FnSuns.j0 k t194 t195 t196 t198 t199 true) else (laws_FnSuns.j0 k t194 t195 t196 t198 t199 ((decide (t203 > 0)) != (t199 == 1296000))))) else (laws_FnSuns.j0 k t194 t195 t196 t198 t199 true))) else (laws_FnSuns.j0 k t194 t195 t196 t198 t199 true)))) else (laws_FnSuns.j0 k t194 t195 t196 t198 t199 true)))) else (laws_FnSuns.j0 k t194 t195 t196 t198 t199 true)) = some r := H
    have A10 := Aside0.mk A100
    clear A100
    have HC11 := Aside0.mk H
    clear H
    go_enter Try.func14, Try.ntmps14
    go_upto_region 9 with (first | ((with_reducible refine gate_callee (f := 25) rfl ?_); refine goesL_ (some 30) rfl rfl Try.func25 (by kernel_rfl) rfl #[.slice A0 l0.length c0, .slice A1 l1.length c1] rfl (by (try simp only [List.map_toArray, List.map_cons, List.map_nil]); first | done | rfl | (simp only [List.length_drop, List.length_take]; rfl)) ?_; (with_reducible refine (laws_a2Long.calls _ _ l0 _ _ l1 false _ ?side1 ?side2 ?side3 ?side4 A3.out).mono ?_); (case side1 => repeat (first | exact HR0.out | (with_reducible refine Kd.C_alloc ?_ _) | (with_reducible refine Kd.C_drewN ?_ _) | (with_reducible refine Kd.C_drew ?_))); (case side2 => exact HC0.out); (case side3 => repeat (first | exact HR1.out | (with_reducible refine Kd.C_alloc ?_ _) | (with_reducible refine Kd.C_drewN ?_ _) | (with_reducible refine Kd.C_drew ?_))); (case side4 => exact HC1.out); rintro e w' ⟨rfl, ⟨nd, rfl⟩⟩; refine ⟨_, rfl, ?_⟩) | ((with_reducible refine gate_callee (f := 26) rfl ?_); refine goesL_ (some 32) rfl rfl Try.func26 (by kernel_rfl) rfl #[.slice A0 l0.length c0] rfl (by (try simp only [List.map_toArray, List.map_cons, List.map_nil]); first | done | rfl | (simp only [List.length_drop, List.length_take]; rfl)) ?_; (with_reducible refine (spec_A2Lat.calls _ _ l0 t194 _ ?side1 ?side2 A5.out).mono ?_); (case side1 => repeat (first | exact HR0.out | (with_reducible refine Kd.C_alloc ?_ _) | (with_reducible refine Kd.C_drewN ?_ _) | (with_reducible refine Kd.C_drew ?_))); (case side2 => exact HC0.out); rintro e w12 ⟨rfl, hb⟩; refine ⟨_, rfl, ?_⟩; have n0_ := Aside0.mk (below_step (by repeat (first | (with_reducible first | exact HB.out | apply below_alloc | apply pw_below_drewN | apply below_drew1) | exact HB.out)) hb); clear HB; have HB := n0_; clear n0_; (try clear hb); (try clear hb2); (try clear hk); (try clear hi)) | ((with_reducible refine gate_callee (f := 30) rfl ?_); refine goesL_ (some 34) rfl rfl Try.func30 (by kernel_rfl) rfl #[.slice A1 l1.length c1, .int .i64 0, .int .i64 365] rfl (by (try simp only [List.map_toArray, List.map_cons, List.map_nil]); first | done | rfl | (simp only [List.length_drop, List.length_take]; rfl)) ?_; (with_reducible refine (laws_a2At.calls _ _ l1 0 365 t195 _ ?side1 ?side2 A6.out).mono ?_); (case side1 => repeat (first | exact (Kd.C_below HR1.out HB.out) | (with_reducible refine Kd.C_alloc ?_ _) | (with_reducible refine Kd.C_drewN ?_ _) | (with_reducible refine Kd.C_drew ?_))); (case side2 => exact HC1.out); rintro e w' ⟨rfl, ⟨nd, rfl⟩⟩; refine ⟨_, rfl, ?_⟩) | ((with_reducible refine gate_callee (f := 18) rfl ?_); refine goesL_ (some 37) rfl rfl Try.func18 (by kernel_rfl) rfl #[.int .i64 t195] rfl (by (try simp only [List.map_toArray, List.map_cons, List.map_nil]); first | done | rfl | (simp only [List.length_drop, List.length_take]; rfl)) ?_; (with_reducible refine (impl_SunDeclination.calls k t195 t196 t197 _ A7.out).mono ?_); rintro e w' ⟨rfl, ⟨nd, rfl⟩⟩; refine ⟨_, rfl, ?_⟩) | ((with_reducible refine gate_callee (f := 38) rfl ?_); refine goesL_ (some 42) rfl rfl Try.func38 (by kernel_rfl) rfl #[.int .i64 t194] rfl (by (try simp only [List.map_toArray, List.map_cons, List.map_nil]); first | done | rfl | (simp only [List.length_drop, List.length_take]; rfl)) ?_; (with_reducible refine (impl_LongestDay.calls k t194 t198 t199 t200 _ A8.out).mono ?_); rintro e w13 ⟨rfl, hb⟩; refine ⟨_, rfl, ?_⟩; have n0_ := Aside0.mk (below_step (by repeat (first | (with_reducible first | exact HB.out | apply below_alloc | apply pw_below_drewN | apply below_drew1) | exact HB.out)) hb); clear HB; have HB := n0_; clear n0_; (try clear hb); (try clear hb2); (try clear hk); (try clear hi)) | ((with_reducible refine gate_callee (f := 29) rfl ?_); refine goesL_ (some 49) rfl rfl Try.func29 (by kernel_rfl) rfl #[.int .i64 t194, .int .i64 t196] rfl (by (try simp only [List.map_toArray, List.map_cons, List.map_nil]); first | done | rfl | (simp only [List.length_drop, List.length_take]; rfl)) ?_; (with_reducible refine (impl_UpAngle.calls k t194 t196 t201 t202 _ A9.out).mono ?_); rintro e w14 ⟨rfl, hb⟩; refine ⟨_, rfl, ?_⟩; have n0_ := Aside0.mk (below_step (by repeat (first | (with_reducible first | exact HB.out | apply below_alloc | apply pw_below_drewN | apply below_drew1) | exact HB.out)) hb); clear HB; have HB := n0_; clear n0_; (try clear hb); (try clear hb2); (try clear hk); (try clear hi)) | ((with_reducible refine gate_callee (f := 24) rfl ?_); refine goesL_ (some 54) rfl rfl Try.func24 (by kernel_rfl) rfl #[.int .i64 t194] rfl (by (try simp only [List.map_toArray, List.map_cons, List.map_nil]); first | done | rfl | (simp only [List.length_drop, List.length_take]; rfl)) ?_; (with_reducible refine (impl_WhiteNights.calls k t194 t203 t204 _ A10.out).mono ?_); rintro e w15 ⟨rfl, hb⟩; refine ⟨_, rfl, ?_⟩; have n0_ := Aside0.mk (below_step (by repeat (first | (with_reducible first | exact HB.out | apply below_alloc | apply pw_below_drewN | apply below_drew1) | exact HB.out)) hb); clear HB; have HB := n0_; clear n0_; (try clear hb); (try clear hb2); (try clear hk); (try clear hi)))
    (try simp only [Act.put, List.setIfInBounds_toArray, List.set_cons_zero, List.set_cons_succ])
    go_cut [106] (fun v106 wc => ∃ (kq : Nat) (x106_10 : Bool), v106 = .bool x106_10 ∧ Aside0 (laws_FnSuns.j0 kq t194 t195 t196 t198 t199 x106_10 = some r) ∧ Aside0 (kq ≤ k) ∧ Aside0 (Below w.heap.size w wc))
    case first =>
      have H := HC11.out
      clear HC11
      by_cases c16 : t197 = 0
      · rw [if_pos c16] at H
        have c16b0 : (t197 == 0) = true := beq_iff_eq.mpr c16
        have c16b1 : (t197 != 0) = false := bne_eq_false_iff_eq.mpr c16
        clear c16
        (first | rw [c16b0] | (simp only [i64_w, i32_w]; rw [c16b0]) | skip)
        by_cases c17 : t196 < (-84600)
        · rw [if_pos c17] at H
          have c17b0 : decide (t196 < (-84600)) = true := decide_eq_true c17
          clear c17
          have H' := Aside0.mk H
          clear H
          go_wp2
          go_meet
          case rel => exact ⟨_, (true), (by first | rfl | (simp; done) | (simp [*]; done)), H', ⟨by first | omega | exact Nat.le_refl _⟩, ⟨by repeat (first | (with_reducible first | exact HB.out | apply below_alloc | apply pw_below_drewN | apply below_drew1) | exact HB.out)⟩⟩
        · rw [if_neg c17] at H
          have c17b0 : decide (t196 < (-84600)) = false := decide_eq_false c17
          clear c17
          by_cases c18 : t196 > 84600
          · rw [if_pos c18] at H
            have c18b0 : decide (84600 < t196) = true := decide_eq_true c18
            clear c18
            have H' := Aside0.mk H
            clear H
            go_wp2
            go_meet
            case rel => exact ⟨_, (true), (by first | rfl | (simp; done) | (simp [*]; done)), H', ⟨by first | omega | exact Nat.le_refl _⟩, ⟨by repeat (first | (with_reducible first | exact HB.out | apply below_alloc | apply pw_below_drewN | apply below_drew1) | exact HB.out)⟩⟩
          · rw [if_neg c18] at H
            have c18b0 : decide (84600 < t196) = false := decide_eq_false c18
            clear c18
            by_cases c19 : t200 = 0
            · rw [if_pos c19] at H
              have c19b0 : (t200 == 0) = true := beq_iff_eq.mpr c19
              have c19b1 : (t200 != 0) = false := bne_eq_false_iff_eq.mpr c19
              clear c19
              by_cases c20 : t198 < 0
              · rw [if_pos c20] at H
                have c20b0 : decide (t198 < 0) = true := decide_eq_true c20
                clear c20
                have H' := Aside0.mk H
                clear H
                go_wp2
                go_meet
                case rel => exact ⟨_, (true), (by first | rfl | (simp; done) | (simp [*]; done)), H', ⟨by first | omega | exact Nat.le_refl _⟩, ⟨by repeat (first | (with_reducible first | exact HB.out | apply below_alloc | apply pw_below_drewN | apply below_drew1) | exact HB.out)⟩⟩
              · rw [if_neg c20] at H
                have c20b0 : decide (t198 < 0) = false := decide_eq_false c20
                clear c20
                by_cases c21 : t198 > 364
                · rw [if_pos c21] at H
                  have c21b0 : decide (364 < t198) = true := decide_eq_true c21
                  clear c21
                  have H' := Aside0.mk H
                  clear H
                  go_wp2
                  go_meet
                  case rel => exact ⟨_, (true), (by first | rfl | (simp; done) | (simp [*]; done)), H', ⟨by first | omega | exact Nat.le_refl _⟩, ⟨by repeat (first | (with_reducible first | exact HB.out | apply below_alloc | apply pw_below_drewN | apply below_drew1) | exact HB.out)⟩⟩
                · rw [if_neg c21] at H
                  have c21b0 : decide (364 < t198) = false := decide_eq_false c21
                  clear c21
                  by_cases c22 : t202 = 0
                  · rw [if_pos c22] at H
                    have c22b0 : (t202 == 0) = true := beq_iff_eq.mpr c22
                    have c22b1 : (t202 != 0) = false := bne_eq_false_iff_eq.mpr c22
                    clear c22
                    by_cases c23 : t201 > t199
                    · rw [if_pos c23] at H
                      have c23b0 : decide (t199 < t201) = true := decide_eq_true c23
                      clear c23
                      have H' := Aside0.mk H
                      clear H
                      go_wp2
                      go_meet
                      case rel => exact ⟨_, (true), (by first | rfl | (simp; done) | (simp [*]; done)), H', ⟨by first | omega | exact Nat.le_refl _⟩, ⟨by repeat (first | (with_reducible first | exact HB.out | apply below_alloc | apply pw_below_drewN | apply below_drew1) | exact HB.out)⟩⟩
                    · rw [if_neg c23] at H
                      have c23b0 : decide (t199 < t201) = false := decide_eq_false c23
                      clear c23
                      by_cases c24 : t204 = 0
                      · rw [if_pos c24] at H
                        have c24b0 : (t204 == 0) = true := beq_iff_eq.mpr c24
                        have c24b1 : (t204 != 0) = false := bne_eq_false_iff_eq.mpr c24
                        clear c24
                        by_cases c25 : t203 < 0
                        · rw [if_pos c25] at H
                          have c25b0 : decide (t203 < 0) = true := decide_eq_true c25
                          clear c25
                          have H' := Aside0.mk H
                          clear H
                          go_wp2
                          go_meet
                          case rel => exact ⟨_, (true), (by first | rfl | (simp; done) | (simp [*]; done)), H', ⟨by first | omega | exact Nat.le_refl _⟩, ⟨by repeat (first | (with_reducible first | exact HB.out | apply below_alloc | apply pw_below_drewN | apply below_drew1) | exact HB.out)⟩⟩
                        · rw [if_neg c25] at H
                          have c25b0 : decide (t203 < 0) = false := decide_eq_false c25
                          clear c25
                          by_cases c26 : t203 > 365
                          · rw [if_pos c26] at H
                            have c26b0 : decide (365 < t203) = true := decide_eq_true c26
                            clear c26
                            have H' := Aside0.mk H
                            clear H
                            go_wp2
                            go_meet
                            case rel => exact ⟨_, (true), (by first | rfl | (simp; done) | (simp [*]; done)), H', ⟨by first | omega | exact Nat.le_refl _⟩, ⟨by repeat (first | (with_reducible first | exact HB.out | apply below_alloc | apply pw_below_drewN | apply below_drew1) | exact HB.out)⟩⟩
                          · rw [if_neg c26] at H
                            have c26b0 : decide (365 < t203) = false := decide_eq_false c26
                            clear c26
                            have H' := Aside0.mk H
                            clear H
                            go_wp2
                            go_meet
                            case rel => exact ⟨_, (((decide (t203 > 0)) != (t199 == 1296000))), (by first | rfl | (simp; done) | (simp [*]; done)), H', ⟨by first | omega | exact Nat.le_refl _⟩, ⟨by repeat (first | (with_reducible first | exact HB.out | apply below_alloc | apply pw_below_drewN | apply below_drew1) | exact HB.out)⟩⟩
                      · rw [if_neg c24] at H
                        have c24b0 : (t204 == 0) = false := beq_eq_false_iff_ne.mpr c24
                        have c24b1 : (t204 != 0) = true := bne_iff_ne.mpr c24
                        have H' := Aside0.mk H
                        clear H
                        go_wp2
                        go_meet
                        case rel => exact ⟨_, (true), (by first | rfl | (simp; done) | (simp [*]; done)), H', ⟨by first | omega | exact Nat.le_refl _⟩, ⟨by repeat (first | (with_reducible first | exact HB.out | apply below_alloc | apply pw_below_drewN | apply below_drew1) | exact HB.out)⟩⟩
                  · rw [if_neg c22] at H
                    have c22b0 : (t202 == 0) = false := beq_eq_false_iff_ne.mpr c22
                    have c22b1 : (t202 != 0) = true := bne_iff_ne.mpr c22
                    have H' := Aside0.mk H
                    clear H
                    go_wp2
                    go_meet
                    case rel => exact ⟨_, (true), (by first | rfl | (simp; done) | (simp [*]; done)), H', ⟨by first | omega | exact Nat.le_refl _⟩, ⟨by repeat (first | (with_reducible first | exact HB.out | apply below_alloc | apply pw_below_drewN | apply below_drew1) | exact HB.out)⟩⟩
            · rw [if_neg c19] at H
              have c19b0 : (t200 == 0) = false := beq_eq_false_iff_ne.mpr c19
              have c19b1 : (t200 != 0) = true := bne_iff_ne.mpr c19
              have H' := Aside0.mk H
              clear H
              go_wp2
              go_meet
              case rel => exact ⟨_, (true), (by first | rfl | (simp; done) | (simp [*]; done)), H', ⟨by first | omega | exact Nat.le_refl _⟩, ⟨by repeat (first | (with_reducible first | exact HB.out | apply below_alloc | apply pw_below_drewN | apply below_drew1) | exact HB.out)⟩⟩
      · rw [if_neg c16] at H
        have c16b0 : (t197 == 0) = false := beq_eq_false_iff_ne.mpr c16
        have c16b1 : (t197 != 0) = true := bne_iff_ne.mpr c16
        (first | rw [c16b0] | (simp only [i64_w, i32_w]; rw [c16b0]) | skip)
        have H' := Aside0.mk H
        clear H
        go_wp2
        go_meet
        case rel => exact ⟨_, (true), (by first | rfl | (simp; done) | (simp [*]; done)), H', ⟨by first | omega | exact Nat.le_refl _⟩, ⟨by repeat (first | (with_reducible first | exact HB.out | apply below_alloc | apply pw_below_drewN | apply below_drew1) | exact HB.out)⟩⟩
    case rest =>
      clear HC11
      try clear c1
      try clear c2
      try clear p2
      try clear c3
      try clear c4
      try clear c14
      try clear c16
      try clear c16b0
      try clear c16b1
      try clear c17
      try clear c17b0
      try clear c18
      try clear c18b0
      try clear c19
      try clear c19b0
      try clear c19b1
      try clear c20
      try clear c20b0
      try clear c21
      try clear c21b0
      try clear c22
      try clear c22b0
      try clear c22b1
      try clear c23
      try clear c23b0
      try clear c24
      try clear c24b0
      try clear c24b1
      try clear c25
      try clear c25b0
      try clear c26
      try clear c26b0
      obtain ⟨kq, x106_10, rfl, HA, HJ10, HB⟩ := hcut
      cases kq with
      | zero => exact absurd HA.out (by simp [laws_FnSuns.j0])
      | succ kj10 =>
        have H := HA.out
        clear HA
        simp only [laws_FnSuns.j0] at H
        by_cases c27 : x106_10 = true
        · subst c27
          have H1 : (some false) = some r := by rw [if_pos rfl] at H; exact H
          clear H
          have H := H1
          clear H1
          obtain rfl := Option.some.inj H
          go_wp2
          go_ret
          exact ⟨by first | rfl | (simp [errW_none, errW_some] <;> rfl) | (simp [*, errW_none, errW_some] <;> rfl), by repeat (first | (with_reducible first | exact HB.out | apply below_alloc | apply pw_below_drewN | apply below_drew1) | exact HB.out)⟩
        · replace c27 := Bool.eq_false_iff.mpr c27
          subst c27
          have H1 : ((spec_SunDeclination.f kj10 t198).bind fun bt205 => ((impl_UpAngle.f kj10 t194 bt205.1).bind fun bt207 => ((impl_LatitudeForDay.f kj10 t195).bind fun bt209 => (if bt205.2 = 0 then (if bt207.2 = 0 then (laws_FnSuns.j1 kj10 t196 bt209.1 bt209.2 (bt207.1 != t199)) else (laws_FnSuns.j1 kj10 t196 bt209.1 bt209.2 true)) else (laws_FnSuns.j1 kj10 t196 bt209.1 bt209.2 true))))) = some r := by rw [if_neg (show ¬ (false = true) by decide)] at H; exact H
          clear H
          have H := H1
          clear H1
          replace H := Option.bind_eq_some_iff.mp H
          obtain ⟨⟨t205, t206⟩, A280, H⟩ := H
          replace H : ((impl_UpAngle.f kj10 t194 t205).bind fun bt207 => ((impl_LatitudeForDay.f kj10 t195).bind fun bt209 => (if t206 = 0 then (if bt207.2 = 0 then (laws_FnSuns.j1 kj10 t196 bt209.1 bt209.2 (bt207.1 != t199)) else (laws_FnSuns.j1 kj10 t196 bt209.1 bt209.2 true)) else (laws_FnSuns.j1 kj10 t196 bt209.1 bt209.2 true)))) = some r := H
          have A28 := Aside0.mk A280
          clear A280
          replace H := Option.bind_eq_some_iff.mp H
          obtain ⟨⟨t207, t208⟩, A290, H⟩ := H
          replace H : ((impl_LatitudeForDay.f kj10 t195).bind fun bt209 => (if t206 = 0 then (if t208 = 0 then (laws_FnSuns.j1 kj10 t196 bt209.1 bt209.2 (t207 != t199)) else (laws_FnSuns.j1 kj10 t196 bt209.1 bt209.2 true)) else (laws_FnSuns.j1 kj10 t196 bt209.1 bt209.2 true))) = some r := H
          have A29 := Aside0.mk A290
          clear A290
          replace H := Option.bind_eq_some_iff.mp H
          obtain ⟨⟨t209, t210⟩, A300, H⟩ := H
          replace H : (if t206 = 0 then (if t208 = 0 then (laws_FnSuns.j1 kj10 t196 t209 t210 (t207 != t199)) else (laws_FnSuns.j1 kj10 t196 t209 t210 true)) else (laws_FnSuns.j1 kj10 t196 t209 t210 true)) = some r := H
          have A30 := Aside0.mk A300
          clear A300
          have HC31 := Aside0.mk H
          clear H
          go_upto_region 14 with (first | ((with_reducible refine gate_callee (f := 17) rfl ?_); refine goesL_ (some 109) rfl rfl Try.func17 (by kernel_rfl) rfl #[.int .i64 t198] rfl (by (try simp only [List.map_toArray, List.map_cons, List.map_nil]); first | done | rfl | (simp only [List.length_drop, List.length_take]; rfl)) ?_; (with_reducible refine (spec_SunDeclination.calls kj10 t198 t205 t206 _ A28.out).mono ?_); rintro e w' ⟨rfl, ⟨nd, rfl⟩⟩; refine ⟨_, rfl, ?_⟩) | ((with_reducible refine gate_callee (f := 29) rfl ?_); refine goesL_ (some 115) rfl rfl Try.func29 (by kernel_rfl) rfl #[.int .i64 t194, .int .i64 t205] rfl (by (try simp only [List.map_toArray, List.map_cons, List.map_nil]); first | done | rfl | (simp only [List.length_drop, List.length_take]; rfl)) ?_; (with_reducible refine (impl_UpAngle.calls kj10 t194 t205 t207 t208 _ A29.out).mono ?_); rintro e w32 ⟨rfl, hb⟩; refine ⟨_, rfl, ?_⟩; have n0_ := Aside0.mk (below_step (by repeat (first | (with_reducible first | exact HB.out | apply below_alloc | apply pw_below_drewN | apply below_drew1) | exact HB.out)) hb); clear HB; have HB := n0_; clear n0_; (try clear hb); (try clear hb2); (try clear hk); (try clear hi)) | ((with_reducible refine gate_callee (f := 32) rfl ?_); refine goesL_ (some 120) rfl rfl Try.func32 (by kernel_rfl) rfl #[.int .i64 t195] rfl (by (try simp only [List.map_toArray, List.map_cons, List.map_nil]); first | done | rfl | (simp only [List.length_drop, List.length_take]; rfl)) ?_; (with_reducible refine (impl_LatitudeForDay.calls kj10 t195 t209 t210 _ A30.out).mono ?_); rintro e w33 ⟨rfl, hb⟩; refine ⟨_, rfl, ?_⟩; have n0_ := Aside0.mk (below_step (by repeat (first | (with_reducible first | exact HB.out | apply below_alloc | apply pw_below_drewN | apply below_drew1) | exact HB.out)) hb); clear HB; have HB := n0_; clear n0_; (try clear hb); (try clear hb2); (try clear hk); (try clear hi)))
          (try simp only [Act.put, List.setIfInBounds_toArray, List.set_cons_zero, List.set_cons_succ])
          go_cut [133] (fun v133 wc => ∃ (kq : Nat) (x133_30 : Bool), v133 = .bool x133_30 ∧ Aside0 (laws_FnSuns.j1 kq t196 t209 t210 x133_30 = some r) ∧ Aside0 (kq ≤ kj10) ∧ Aside0 (Below w.heap.size w wc))
          case first =>
            have H := HC31.out
            clear HC31
            by_cases c34 : t206 = 0
            · rw [if_pos c34] at H
              have c34b0 : (t206 == 0) = true := beq_iff_eq.mpr c34
              have c34b1 : (t206 != 0) = false := bne_eq_false_iff_eq.mpr c34
              clear c34
              (first | rw [c34b0] | (simp only [i64_w, i32_w]; rw [c34b0]) | skip)
              by_cases c35 : t208 = 0
              · rw [if_pos c35] at H
                have c35b0 : (t208 == 0) = true := beq_iff_eq.mpr c35
                have c35b1 : (t208 != 0) = false := bne_eq_false_iff_eq.mpr c35
                clear c35
                have H' := Aside0.mk H
                clear H
                go_wp2
                go_meet
                case rel => exact ⟨_, ((t207 != t199)), (by first | rfl | (simp; done) | (simp [*]; done)), H', ⟨by have := HJ10.out; first | omega | exact Nat.le_refl _⟩, ⟨by repeat (first | (with_reducible first | exact HB.out | apply below_alloc | apply pw_below_drewN | apply below_drew1) | exact HB.out)⟩⟩
              · rw [if_neg c35] at H
                have c35b0 : (t208 == 0) = false := beq_eq_false_iff_ne.mpr c35
                have c35b1 : (t208 != 0) = true := bne_iff_ne.mpr c35
                have H' := Aside0.mk H
                clear H
                go_wp2
                go_meet
                case rel => exact ⟨_, (true), (by first | rfl | (simp; done) | (simp [*]; done)), H', ⟨by have := HJ10.out; first | omega | exact Nat.le_refl _⟩, ⟨by repeat (first | (with_reducible first | exact HB.out | apply below_alloc | apply pw_below_drewN | apply below_drew1) | exact HB.out)⟩⟩
            · rw [if_neg c34] at H
              have c34b0 : (t206 == 0) = false := beq_eq_false_iff_ne.mpr c34
              have c34b1 : (t206 != 0) = true := bne_iff_ne.mpr c34
              (first | rw [c34b0] | (simp only [i64_w, i32_w]; rw [c34b0]) | skip)
              have H' := Aside0.mk H
              clear H
              go_wp2
              go_meet
              case rel => exact ⟨_, (true), (by first | rfl | (simp; done) | (simp [*]; done)), H', ⟨by have := HJ10.out; first | omega | exact Nat.le_refl _⟩, ⟨by repeat (first | (with_reducible first | exact HB.out | apply below_alloc | apply pw_below_drewN | apply below_drew1) | exact HB.out)⟩⟩
          case rest =>
            clear HC31
            try clear c1
            try clear c2
            try clear p2
            try clear c3
            try clear c4
            try clear c14
            try clear c16
            try clear c16b0
            try clear c16b1
            try clear c17
            try clear c17b0
            try clear c18
            try clear c18b0
            try clear c19
            try clear c19b0
            try clear c19b1
            try clear c20
            try clear c20b0
            try clear c21
            try clear c21b0
            try clear c22
            try clear c22b0
            try clear c22b1
            try clear c23
            try clear c23b0
            try clear c24
            try clear c24b0
            try clear c24b1
            try clear c25
            try clear c25b0
            try clear c26
            try clear c26b0
            try clear c27
            try clear c29
            try clear c30
            try clear c32
            try clear c34
            try clear c34b0
            try clear c34b1
            try clear c35
            try clear c35b0
            try clear c35b1
            try clear p2
            obtain ⟨kq, x133_30, rfl, HA, HJ30, HB⟩ := hcut
            cases kq with
            | zero => exact absurd HA.out (by simp [laws_FnSuns.j1])
            | succ kj30 =>
              have H := HA.out
              clear HA
              simp only [laws_FnSuns.j1] at H
              by_cases c36 : x133_30 = true
              · subst c36
                have H1 : (some false) = some r := by rw [if_pos rfl] at H; exact H
                clear H
                have H := H1
                clear H1
                obtain rfl := Option.some.inj H
                go_wp2
                go_ret
                exact ⟨by first | rfl | (simp [errW_none, errW_some] <;> rfl) | (simp [*, errW_none, errW_some] <;> rfl), by repeat (first | (with_reducible first | exact HB.out | apply below_alloc | apply pw_below_drewN | apply below_drew1) | exact HB.out)⟩
              · replace c36 := Bool.eq_false_iff.mpr c36
                subst c36
                have H1 : (if t210 = 0 then (if t209 < 0 then (laws_FnSuns.j2 kj30 t196 t209 true) else (laws_FnSuns.j2 kj30 t196 t209 (decide (t209 > 324000)))) else ((spec_UpAngle.f kj30 324000 t196).bind fun bt211 => (if t210 = 3 then (if bt211.2 = 0 then (some (bt211.1 != 1296000)) else (some false)) else (some false)))) = some r := by rw [if_neg (show ¬ (false = true) by decide)] at H; exact H
                clear H
                have H := H1
                clear H1
                by_cases c37 : t210 = 0
                · rw [if_pos c37] at H
                  have c37b0 : (t210 == 0) = true := beq_iff_eq.mpr c37
                  have c37b1 : (t210 != 0) = false := bne_eq_false_iff_eq.mpr c37
                  clear c37
                  have HC38 := Aside0.mk H
                  clear H
                  go_upto_region 19 with (fail)
                  go_cut [156] (fun v156 wc => ∃ (kq : Nat) (x156_37 : Bool), v156 = .bool x156_37 ∧ Aside0 (laws_FnSuns.j2 kq t196 t209 x156_37 = some r) ∧ Aside0 (kq ≤ kj30) ∧ Aside0 (Below w.heap.size w wc))
                  case first =>
                    have H := HC38.out
                    clear HC38
                    by_cases c39 : t209 < 0
                    · rw [if_pos c39] at H
                      have c39b0 : decide (t209 < 0) = true := decide_eq_true c39
                      clear c39
                      (first | rw [c39b0] | (simp only [i64_w, i32_w]; rw [c39b0]) | skip)
                      have H' := Aside0.mk H
                      clear H
                      go_wp2
                      go_meet
                      case rel => exact ⟨_, (true), (by first | rfl | (simp; done) | (simp [*]; done)), H', ⟨by have := HJ10.out; have := HJ30.out; first | omega | exact Nat.le_refl _⟩, ⟨by repeat (first | (with_reducible first | exact HB.out | apply below_alloc | apply pw_below_drewN | apply below_drew1) | exact HB.out)⟩⟩
                    · rw [if_neg c39] at H
                      have c39b0 : decide (t209 < 0) = false := decide_eq_false c39
                      clear c39
                      (first | rw [c39b0] | (simp only [i64_w, i32_w]; rw [c39b0]) | skip)
                      have H' := Aside0.mk H
                      clear H
                      go_wp2
                      go_meet
                      case rel => exact ⟨_, (decide (t209 > 324000)), (by first | rfl | (simp; done) | (simp [*]; done)), H', ⟨by have := HJ10.out; have := HJ30.out; first | omega | exact Nat.le_refl _⟩, ⟨by repeat (first | (with_reducible first | exact HB.out | apply below_alloc | apply pw_below_drewN | apply below_drew1) | exact HB.out)⟩⟩
                  case rest =>
                    clear HC38
                    try clear c1
                    try clear c2
                    try clear p2
                    try clear c3
                    try clear c4
                    try clear c14
                    try clear c16
                    try clear c16b0
                    try clear c16b1
                    try clear c17
                    try clear c17b0
                    try clear c18
                    try clear c18b0
                    try clear c19
                    try clear c19b0
                    try clear c19b1
                    try clear c20
                    try clear c20b0
                    try clear c21
                    try clear c21b0
                    try clear c22
                    try clear c22b0
                    try clear c22b1
                    try clear c23
                    try clear c23b0
                    try clear c24
                    try clear c24b0
                    try clear c24b1
                    try clear c25
                    try clear c25b0
                    try clear c26
                    try clear c26b0
                    try clear c27
                    try clear c29
                    try clear c30
                    try clear c32
                    try clear c34
                    try clear c34b0
                    try clear c34b1
                    try clear c35
                    try clear c35b0
                    try clear c35b1
                    try clear c36
                    try clear c37
                    try clear c37b0
                    try clear c37b1
                    try clear c38
                    try clear c39
                    try clear c39b0
                    try clear p2
                    obtain ⟨kq, x156_37, rfl, HA, HJ37, HB⟩ := hcut
                    cases kq with
                    | zero => exact absurd HA.out (by simp [laws_FnSuns.j2])
                    | succ kj37 =>
                      have H := HA.out
                      clear HA
                      simp only [laws_FnSuns.j2] at H
                      by_cases c40 : x156_37 = true
                      · subst c40
                        have H1 : (some false) = some r := by rw [if_pos rfl] at H; exact H
                        clear H
                        have H := H1
                        clear H1
                        obtain rfl := Option.some.inj H
                        go_wp2
                        go_ret
                        exact ⟨by first | rfl | (simp [errW_none, errW_some] <;> rfl) | (simp [*, errW_none, errW_some] <;> rfl), by repeat (first | (with_reducible first | exact HB.out | apply below_alloc | apply pw_below_drewN | apply below_drew1) | exact HB.out)⟩
                      · replace c40 := Bool.eq_false_iff.mpr c40
                        subst c40
                        have H1 : ((spec_UpAngle.f kj37 t209 t196).bind fun bt213 => (if bt213.2 = 0 then (laws_FnSuns.j3 kj37 t196 t209 (bt213.1 != 1296000)) else (laws_FnSuns.j3 kj37 t196 t209 true))) = some r := by rw [if_neg (show ¬ (false = true) by decide)] at H; exact H
                        clear H
                        have H := H1
                        clear H1
                        replace H := Option.bind_eq_some_iff.mp H
                        obtain ⟨⟨t213, t214⟩, A410, H⟩ := H
                        replace H : (if t214 = 0 then (laws_FnSuns.j3 kj37 t196 t209 (t213 != 1296000)) else (laws_FnSuns.j3 kj37 t196 t209 true)) = some r := H
                        have A41 := Aside0.mk A410
                        clear A410
                        have HC42 := Aside0.mk H
                        clear H
                        go_upto_region 22 with (first | ((with_reducible refine gate_callee (f := 36) rfl ?_); refine goesL_ (some 160) rfl rfl Try.func36 (by kernel_rfl) rfl #[.int .i64 t209, .int .i64 t196] rfl (by (try simp only [List.map_toArray, List.map_cons, List.map_nil]); first | done | rfl | (simp only [List.length_drop, List.length_take]; rfl)) ?_; (with_reducible refine (spec_UpAngle.calls kj37 t209 t196 t213 t214 _ A41.out).mono ?_); rintro e w43 ⟨rfl, hb⟩; refine ⟨_, rfl, ?_⟩; have n0_ := Aside0.mk (below_step (by repeat (first | (with_reducible first | exact HB.out | apply below_alloc | apply pw_below_drewN | apply below_drew1) | exact HB.out)) hb); clear HB; have HB := n0_; clear n0_; (try clear hb); (try clear hb2); (try clear hk); (try clear hi)))
                        (try simp only [Act.put, List.setIfInBounds_toArray, List.set_cons_zero, List.set_cons_succ])
                        go_cut [168] (fun v168 wc => ∃ (kq : Nat) (x168_41 : Bool), v168 = .bool x168_41 ∧ Aside0 (laws_FnSuns.j3 kq t196 t209 x168_41 = some r) ∧ Aside0 (kq ≤ kj37) ∧ Aside0 (Below w.heap.size w wc))
                        case first =>
                          have H := HC42.out
                          clear HC42
                          by_cases c44 : t214 = 0
                          · rw [if_pos c44] at H
                            have c44b0 : (t214 == 0) = true := beq_iff_eq.mpr c44
                            have c44b1 : (t214 != 0) = false := bne_eq_false_iff_eq.mpr c44
                            clear c44
                            (first | rw [c44b0] | (simp only [i64_w, i32_w]; rw [c44b0]) | skip)
                            have H' := Aside0.mk H
                            clear H
                            go_wp2
                            go_meet
                            case rel => exact ⟨_, ((t213 != 1296000)), (by first | rfl | (simp; done) | (simp [*]; done)), H', ⟨by have := HJ10.out; have := HJ30.out; have := HJ37.out; first | omega | exact Nat.le_refl _⟩, ⟨by repeat (first | (with_reducible first | exact HB.out | apply below_alloc | apply pw_below_drewN | apply below_drew1) | exact HB.out)⟩⟩
                          · rw [if_neg c44] at H
                            have c44b0 : (t214 == 0) = false := beq_eq_false_iff_ne.mpr c44
                            have c44b1 : (t214 != 0) = true := bne_iff_ne.mpr c44
                            (first | rw [c44b0] | (simp only [i64_w, i32_w]; rw [c44b0]) | skip)
                            have H' := Aside0.mk H
                            clear H
                            go_wp2
                            go_meet
                            case rel => exact ⟨_, (true), (by first | rfl | (simp; done) | (simp [*]; done)), H', ⟨by have := HJ10.out; have := HJ30.out; have := HJ37.out; first | omega | exact Nat.le_refl _⟩, ⟨by repeat (first | (with_reducible first | exact HB.out | apply below_alloc | apply pw_below_drewN | apply below_drew1) | exact HB.out)⟩⟩
                        case rest =>
                          clear HC42
                          try clear c1
                          try clear c2
                          try clear p2
                          try clear c3
                          try clear c4
                          try clear c14
                          try clear c16
                          try clear c16b0
                          try clear c16b1
                          try clear c17
                          try clear c17b0
                          try clear c18
                          try clear c18b0
                          try clear c19
                          try clear c19b0
                          try clear c19b1
                          try clear c20
                          try clear c20b0
                          try clear c21
                          try clear c21b0
                          try clear c22
                          try clear c22b0
                          try clear c22b1
                          try clear c23
                          try clear c23b0
                          try clear c24
                          try clear c24b0
                          try clear c24b1
                          try clear c25
                          try clear c25b0
                          try clear c26
                          try clear c26b0
                          try clear c27
                          try clear c29
                          try clear c30
                          try clear c32
                          try clear c34
                          try clear c34b0
                          try clear c34b1
                          try clear c35
                          try clear c35b0
                          try clear c35b1
                          try clear c36
                          try clear c37
                          try clear c37b0
                          try clear c37b1
                          try clear c38
                          try clear c39
                          try clear c39b0
                          try clear c40
                          try clear c44
                          try clear c44b0
                          try clear c44b1
                          try clear p2
                          obtain ⟨kq, x168_41, rfl, HA, HJ41, HB⟩ := hcut
                          cases kq with
                          | zero => exact absurd HA.out (by simp [laws_FnSuns.j3])
                          | succ kj41 =>
                            have H := HA.out
                            clear HA
                            simp only [laws_FnSuns.j3] at H
                            by_cases c45 : x168_41 = true
                            · subst c45
                              have H1 : (some false) = some r := by rw [if_pos rfl] at H; exact H
                              clear H
                              have H := H1
                              clear H1
                              obtain rfl := Option.some.inj H
                              go_wp2
                              go_ret
                              exact ⟨by first | rfl | (simp [errW_none, errW_some] <;> rfl) | (simp [*, errW_none, errW_some] <;> rfl), by repeat (first | (with_reducible first | exact HB.out | apply below_alloc | apply pw_below_drewN | apply below_drew1) | exact HB.out)⟩
                            · replace c45 := Bool.eq_false_iff.mpr c45
                              subst c45
                              have H1 : (if t209 = 0 then (some true) else ((spec_UpAngle.f kj41 (wrap64 (t209 - 1)) t196).bind fun bt215 => (if bt215.2 = 0 then (some (bt215.1 != 1296000)) else (some false)))) = some r := by rw [if_neg (show ¬ (false = true) by decide)] at H; exact H
                              clear H
                              have H := H1
                              clear H1
                              by_cases c46 : t209 = 0
                              · rw [if_pos c46] at H
                                have c46b0 : (t209 == 0) = true := beq_iff_eq.mpr c46
                                have c46b1 : (t209 != 0) = false := bne_eq_false_iff_eq.mpr c46
                                clear c46
                                obtain rfl := Option.some.inj H
                                go_wp2
                                go_ret
                                exact ⟨by first | rfl | (simp [errW_none, errW_some] <;> rfl) | (simp [*, errW_none, errW_some] <;> rfl), by repeat (first | (with_reducible first | exact HB.out | apply below_alloc | apply pw_below_drewN | apply below_drew1) | exact HB.out)⟩
                              · rw [if_neg c46] at H
                                have c46b0 : (t209 == 0) = false := beq_eq_false_iff_ne.mpr c46
                                have c46b1 : (t209 != 0) = true := bne_iff_ne.mpr c46
                                replace H := Option.bind_eq_some_iff.mp H
                                obtain ⟨⟨t215, t216⟩, A470, H⟩ := H
                                replace H : (if t216 = 0 then (some (t215 != 1296000)) else (some false)) = some r := H
                                have A47 := Aside0.mk A470
                                clear A470
                                by_cases c48 : t216 = 0
                                · rw [if_pos c48] at H
                                  have c48b0 : (t216 == 0) = true := beq_iff_eq.mpr c48
                                  have c48b1 : (t216 != 0) = false := bne_eq_false_iff_eq.mpr c48
                                  clear c48
                                  obtain rfl := Option.some.inj H
                                  go_wp2_with (first | ((with_reducible refine gate_callee (f := 36) rfl ?_); refine goesL_ (some 175) rfl rfl Try.func36 (by kernel_rfl) rfl #[.int .i64 (wrap64 (t209 - 1)), .int .i64 t196] rfl (by (try simp only [List.map_toArray, List.map_cons, List.map_nil]); first | done | rfl | (simp only [List.length_drop, List.length_take]; rfl)) ?_; (with_reducible refine (spec_UpAngle.calls kj41 (wrap64 (t209 - 1)) t196 t215 t216 _ A47.out).mono ?_); rintro e w49 ⟨rfl, hb⟩; refine ⟨_, rfl, ?_⟩; have n0_ := Aside0.mk (below_step (by repeat (first | (with_reducible first | exact HB.out | apply below_alloc | apply pw_below_drewN | apply below_drew1) | exact HB.out)) hb); clear HB; have HB := n0_; clear n0_; (try clear hb); (try clear hb2); (try clear hk); (try clear hi)))
                                  go_ret
                                  exact ⟨by first | rfl | (simp [errW_none, errW_some] <;> rfl) | (simp [*, errW_none, errW_some] <;> rfl), by repeat (first | (with_reducible first | exact HB.out | apply below_alloc | apply pw_below_drewN | apply below_drew1) | exact HB.out)⟩
                                · rw [if_neg c48] at H
                                  have c48b0 : (t216 == 0) = false := beq_eq_false_iff_ne.mpr c48
                                  have c48b1 : (t216 != 0) = true := bne_iff_ne.mpr c48
                                  obtain rfl := Option.some.inj H
                                  go_wp2_with (first | ((with_reducible refine gate_callee (f := 36) rfl ?_); refine goesL_ (some 175) rfl rfl Try.func36 (by kernel_rfl) rfl #[.int .i64 (wrap64 (t209 - 1)), .int .i64 t196] rfl (by (try simp only [List.map_toArray, List.map_cons, List.map_nil]); first | done | rfl | (simp only [List.length_drop, List.length_take]; rfl)) ?_; (with_reducible refine (spec_UpAngle.calls kj41 (wrap64 (t209 - 1)) t196 t215 t216 _ A47.out).mono ?_); rintro e w50 ⟨rfl, hb⟩; refine ⟨_, rfl, ?_⟩; have n0_ := Aside0.mk (below_step (by repeat (first | (with_reducible first | exact HB.out | apply below_alloc | apply pw_below_drewN | apply below_drew1) | exact HB.out)) hb); clear HB; have HB := n0_; clear n0_; (try clear hb); (try clear hb2); (try clear hk); (try clear hi)))
                                  go_ret
                                  exact ⟨by first | rfl | (simp [errW_none, errW_some] <;> rfl) | (simp [*, errW_none, errW_some] <;> rfl), by repeat (first | (with_reducible first | exact HB.out | apply below_alloc | apply pw_below_drewN | apply below_drew1) | exact HB.out)⟩
                · rw [if_neg c37] at H
                  have c37b0 : (t210 == 0) = false := beq_eq_false_iff_ne.mpr c37
                  have c37b1 : (t210 != 0) = true := bne_iff_ne.mpr c37
                  replace H := Option.bind_eq_some_iff.mp H
                  obtain ⟨⟨t211, t212⟩, A510, H⟩ := H
                  replace H : (if t210 = 3 then (if t212 = 0 then (some (t211 != 1296000)) else (some false)) else (some false)) = some r := H
                  have A51 := Aside0.mk A510
                  clear A510
                  by_cases c52 : t210 = 3
                  · rw [if_pos c52] at H
                    have c52b0 : (t210 == 3) = true := beq_iff_eq.mpr c52
                    have c52b1 : (t210 != 3) = false := bne_eq_false_iff_eq.mpr c52
                    clear c52
                    by_cases c53 : t212 = 0
                    · rw [if_pos c53] at H
                      have c53b0 : (t212 == 0) = true := beq_iff_eq.mpr c53
                      have c53b1 : (t212 != 0) = false := bne_eq_false_iff_eq.mpr c53
                      clear c53
                      obtain rfl := Option.some.inj H
                      go_wp2_with (first | ((with_reducible refine gate_callee (f := 36) rfl ?_); refine goesL_ (some 138) rfl rfl Try.func36 (by kernel_rfl) rfl #[.int .i64 324000, .int .i64 t196] rfl (by (try simp only [List.map_toArray, List.map_cons, List.map_nil]); first | done | rfl | (simp only [List.length_drop, List.length_take]; rfl)) ?_; (with_reducible refine (spec_UpAngle.calls kj30 324000 t196 t211 t212 _ A51.out).mono ?_); rintro e w54 ⟨rfl, hb⟩; refine ⟨_, rfl, ?_⟩; have n0_ := Aside0.mk (below_step (by repeat (first | (with_reducible first | exact HB.out | apply below_alloc | apply pw_below_drewN | apply below_drew1) | exact HB.out)) hb); clear HB; have HB := n0_; clear n0_; (try clear hb); (try clear hb2); (try clear hk); (try clear hi)))
                      go_ret
                      exact ⟨by first | rfl | (simp [errW_none, errW_some] <;> rfl) | (simp [*, errW_none, errW_some] <;> rfl), by repeat (first | (with_reducible first | exact HB.out | apply below_alloc | apply pw_below_drewN | apply below_drew1) | exact HB.out)⟩
                    · rw [if_neg c53] at H
                      have c53b0 : (t212 == 0) = false := beq_eq_false_iff_ne.mpr c53
                      have c53b1 : (t212 != 0) = true := bne_iff_ne.mpr c53
                      obtain rfl := Option.some.inj H
                      go_wp2_with (first | ((with_reducible refine gate_callee (f := 36) rfl ?_); refine goesL_ (some 138) rfl rfl Try.func36 (by kernel_rfl) rfl #[.int .i64 324000, .int .i64 t196] rfl (by (try simp only [List.map_toArray, List.map_cons, List.map_nil]); first | done | rfl | (simp only [List.length_drop, List.length_take]; rfl)) ?_; (with_reducible refine (spec_UpAngle.calls kj30 324000 t196 t211 t212 _ A51.out).mono ?_); rintro e w55 ⟨rfl, hb⟩; refine ⟨_, rfl, ?_⟩; have n0_ := Aside0.mk (below_step (by repeat (first | (with_reducible first | exact HB.out | apply below_alloc | apply pw_below_drewN | apply below_drew1) | exact HB.out)) hb); clear HB; have HB := n0_; clear n0_; (try clear hb); (try clear hb2); (try clear hk); (try clear hi)))
                      go_ret
                      exact ⟨by first | rfl | (simp [errW_none, errW_some] <;> rfl) | (simp [*, errW_none, errW_some] <;> rfl), by repeat (first | (with_reducible first | exact HB.out | apply below_alloc | apply pw_below_drewN | apply below_drew1) | exact HB.out)⟩
                  · rw [if_neg c52] at H
                    have c52b0 : (t210 == 3) = false := beq_eq_false_iff_ne.mpr c52
                    have c52b1 : (t210 != 3) = true := bne_iff_ne.mpr c52
                    obtain rfl := Option.some.inj H
                    go_wp2_with (first | ((with_reducible refine gate_callee (f := 36) rfl ?_); refine goesL_ (some 138) rfl rfl Try.func36 (by kernel_rfl) rfl #[.int .i64 324000, .int .i64 t196] rfl (by (try simp only [List.map_toArray, List.map_cons, List.map_nil]); first | done | rfl | (simp only [List.length_drop, List.length_take]; rfl)) ?_; (with_reducible refine (spec_UpAngle.calls kj30 324000 t196 t211 t212 _ A51.out).mono ?_); rintro e w56 ⟨rfl, hb⟩; refine ⟨_, rfl, ?_⟩; have n0_ := Aside0.mk (below_step (by repeat (first | (with_reducible first | exact HB.out | apply below_alloc | apply pw_below_drewN | apply below_drew1) | exact HB.out)) hb); clear HB; have HB := n0_; clear n0_; (try clear hb); (try clear hb2); (try clear hk); (try clear hi)))
                    go_ret
                    exact ⟨by first | rfl | (simp [errW_none, errW_some] <;> rfl) | (simp [*, errW_none, errW_some] <;> rfl), by repeat (first | (with_reducible first | exact HB.out | apply below_alloc | apply pw_below_drewN | apply below_drew1) | exact HB.out)⟩

/-- THE ONE PURE STATEMENT of laws_FnSuns: yours. -/
def laws_FnSuns.Pure : Prop := ∀ (l0 : List Int) (l1 : List Int), l0.length ≤ maxLen → l0.length * 1 ≤ 140737488351232 → (∀ x ∈ l0, (Lit.int .u8 x).wf = true) → l1.length ≤ maxLen → l1.length * 1 ≤ 140737488351232 → (∀ x ∈ l1, (Lit.int .u8 x).wf = true) → ∃ k, laws_FnSuns.f k l0 l1 = some true
theorem laws_FnSuns.walk (P : laws_FnSuns.Pure) (a0 : Option Addr) (len0 cap0 : Nat) (z0 : List Int) (a1 : Option Addr) (len1 cap1 : Nat) (z1 : List Int) (w : World) (w0 : (a0 = none ∧ len0 = 0 ∧ cap0 = 0 ∧ z0 = []) ∨ ∃ x, a0 = some x ∧ len0 ≤ cap0 ∧ cap0 ≤ maxLen ∧ z0.length = cap0 ∧ (∀ i, i < z0.length → w.cell? (x.add i) = some (.int .u8 (z0.getD i 0))) ∧ ∀ n ∈ z0, (Lit.int .u8 n).wf = true) (y0 : len0 * 1 ≤ 140737488351232) (w1 : (a1 = none ∧ len1 = 0 ∧ cap1 = 0 ∧ z1 = []) ∨ ∃ x, a1 = some x ∧ len1 ≤ cap1 ∧ cap1 ≤ maxLen ∧ z1.length = cap1 ∧ (∀ i, i < z1.length → w.cell? (x.add i) = some (.int .u8 (z1.getD i 0))) ∧ ∀ n ∈ z1, (Lit.int .u8 n).wf = true) (y1 : len1 * 1 ≤ 140737488351232) :
    Calls Try.prog 14 #[.slice a0 len0 cap0, .slice a1 len1 cap1] w fun e w' => e = .returned (.bool true) ∧ Below w.heap.size w w' := by
  obtain ⟨l0, rfl, hr0, hm0, hw0, hc0⟩ := ReadsInt.ofRowC w0
  obtain ⟨l1, rfl, hr1, hm1, hw1, hc1⟩ := ReadsInt.ofRowC w1
  obtain ⟨k, h⟩ := P l0 l1 hm0 y0 hw0 hm1 y1 hw1
  refine (laws_FnSuns.calls k _ _ l0 _ _ l1 true w (Kd.C_of_reads (d := (0 : Int)) (h1 := fun _ => rfl) hr0) hc0 (Kd.C_of_reads (d := (0 : Int)) (h1 := fun _ => rfl) hr1) hc1 h).mono ?_
  rintro e w' ⟨rfl, hd⟩
  exact ⟨rfl, hd⟩

end Go.Proofs.Ytibbbeidbapfeaa.QFnSuns
