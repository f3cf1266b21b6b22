/- Walks of the Go functions that the law FnSettings reaches: written by a program of this session. -/
import Derived.Test.YtibbbeidbapfeaaQFnSettingsx0
import Derived.Test.YtibbbeidbapfeaaQFnSettingsx1
import Derived.Test.YtibbbeidbapfeaaQFnSettingsx2
namespace Go.Proofs.Ytibbbeidbapfeaa.QFnSettings
open Go.RowKit Go.Proofs.YtibbbeidbapfeaaW.PrintWords Go.Proofs.YtibbbeidbapfeaaW.PrintLast Go.Proofs.YtibbbeidbapfeaaW.PrintMore
attribute [local go_sem] max2_int min2_int max_two min_two max_three min_three max_four min_four   -- for this text's walks alone
set_option linter.unusedVariables false
set_option linter.unusedSimpArgs false

/-! ### laws_FnSettings: function 8 -/
mutual
def laws_FnSettings.j0 : Nat → List Int → Int → Int → Int → Int → Int → Int → Bool → Option (Bool)
  | 0, _, _, _, _, _, _, _, _ => none
  | k + 1, x1, x5, x6, x7, x8, x9, x11, x76 => if x76 = true then (some false) else ((laws_a2At.f x1 0 181).bind fun t180 => ((impl_AltitudeSine.f k x5 x6 (wrap64 (3600 * t180))).bind fun bt181 => ((impl_IsUp.f k x5 x6 (wrap64 (3600 * t180))).bind fun bt183 => (if bt181.2 = 0 then (if bt181.1 > x11 then (laws_FnSettings.j1 k x5 x6 x7 x8 x9 x11 (wrap64 (3600 * t180)) bt183.1 true) else (if bt183.2 = 0 then (laws_FnSettings.j1 k x5 x6 x7 x8 x9 x11 (wrap64 (3600 * t180)) bt183.1 (bt183.1 != (decide (bt181.1 ≥ 0)))) else (laws_FnSettings.j1 k x5 x6 x7 x8 x9 x11 (wrap64 (3600 * t180)) bt183.1 true))) else (laws_FnSettings.j1 k x5 x6 x7 x8 x9 x11 (wrap64 (3600 * t180)) bt183.1 true)))))
def laws_FnSettings.j1 : Nat → Int → Int → Int → Int → Int → Int → Int → Bool → Bool → Option (Bool)
  | 0, _, _, _, _, _, _, _, _, _ => none
  | k + 1, x5, x6, x7, x8, x9, x11, x15, x18, x110 => if x110 = true then (some false) else (if x8 = 6 then (if x11 < 0 then (if x9 = 0 then (some (!x18)) else (some false)) else (some false)) else (if x8 = 3 then (if x9 = 1296000 then (some x18) else (some false)) else (if x8 = 0 then (if x7 < 1 then (laws_FnSettings.j2 k x5 x6 x7 true) else (if x7 > 648000 then (laws_FnSettings.j2 k x5 x6 x7 true) else (if x9 = (wrap64 (2 * x7)) then (laws_FnSettings.j2 k x5 x6 x7 (x18 != (decide (x15 < x7)))) else (laws_FnSettings.j2 k x5 x6 x7 true)))) else (some false))))
def laws_FnSettings.j2 : Nat → Int → Int → Int → Bool → Option (Bool)
  | 0, _, _, _, _ => none
  | k + 1, x5, x6, x7, x151 => if x151 = true then (some false) else ((impl_IsUp.f k x5 x6 (wrap64 (x7 - 1))).bind fun bt185 => ((impl_IsUp.f k x5 x6 x7).bind fun bt187 => (if bt185.2 = 0 then (if bt185.1 = true then (if bt187.2 = 0 then (some (!bt187.1)) else (some false)) else (some false)) else (some false))))
end
def laws_FnSettings.f (k : Nat) (l0 : List Int) (l1 : List Int) : Option (Bool) := (laws_a2Long.f l0 l1).bind fun t169 => (if t169 = true then (some true) else ((spec_A2Lat.f l0).bind fun t170 => ((spec_A2Decl.f l1).bind fun t171 => ((impl_SettingHour.f k t170 t171).bind fun bt172 => ((impl_UpAngle.f k t170 t171).bind fun bt174 => ((impl_AltitudeSine.f k t170 t171 0).bind fun bt176 => ((impl_NoonHeight.f t170 t171).bind fun bt178 => (if bt174.2 = 0 then (if bt176.2 = 0 then (if bt178.2 = 0 then (laws_FnSettings.j0 k l1 t170 t171 bt172.1 bt172.2 bt174.1 bt176.1 (bt178.1 != (wrap64 (324000 - (mx (wrap64 (t170 - t171)) (wrap64 (t171 - t170))))))) else (laws_FnSettings.j0 k l1 t170 t171 bt172.1 bt172.2 bt174.1 bt176.1 true)) else (laws_FnSettings.j0 k l1 t170 t171 bt172.1 bt172.2 bt174.1 bt176.1 true)) else (laws_FnSettings.j0 k l1 t170 t171 bt172.1 bt172.2 bt174.1 bt176.1 true)))))))))
theorem laws_FnSettings.mono_l : ∀ k, (∀ y0 y1 y2 y3 y4 y5 y6 y7, LeO (laws_FnSettings.j0 k y0 y1 y2 y3 y4 y5 y6 y7) (laws_FnSettings.j0 (k + 1) y0 y1 y2 y3 y4 y5 y6 y7)) ∧ (∀ y0 y1 y2 y3 y4 y5 y6 y7 y8, LeO (laws_FnSettings.j1 k y0 y1 y2 y3 y4 y5 y6 y7 y8) (laws_FnSettings.j1 (k + 1) y0 y1 y2 y3 y4 y5 y6 y7 y8)) ∧ (∀ y0 y1 y2 y3, LeO (laws_FnSettings.j2 k y0 y1 y2 y3) (laws_FnSettings.j2 (k + 1) y0 y1 y2 y3))
  | 0 => ⟨fun _ _ _ _ _ _ _ _ r h => by simp [laws_FnSettings.j0] at h, fun _ _ _ _ _ _ _ _ _ r h => by simp [laws_FnSettings.j1] at h, fun _ _ _ _ r h => by simp [laws_FnSettings.j2] at h⟩
  | k + 1 => by
    obtain ⟨ih0, ih1, ih2⟩ := laws_FnSettings.mono_l k
    refine ⟨?_, ?_, ?_⟩
    · intro y0 y1 y2 y3 y4 y5 y6 y7
      unfold laws_FnSettings.j0
      repeat' first
      | (with_reducible exact ih0 _ _ _ _ _ _ _ _)
      | (with_reducible exact ih1 _ _ _ _ _ _ _ _ _)
      | (with_reducible exact ih2 _ _ _ _)
      | (with_reducible exact impl_AltitudeSine.mono _ _ _ _)
      | (with_reducible exact impl_IsUp.mono _ _ _ _)
      | (with_reducible exact impl_SettingHour.mono _ _ _)
      | (with_reducible exact impl_UpAngle.mono _ _ _)
      | (with_reducible exact LeO.refl _)
      | (with_reducible exact LeO.none _)
      | (with_reducible refine LeO.ite ?_ ?_)
      | (with_reducible refine LeO.bind ?_ (fun _ => ?_))
      | exact ih0 _ _ _ _ _ _ _ _
      | exact ih1 _ _ _ _ _ _ _ _ _
      | exact ih2 _ _ _ _
      | exact impl_AltitudeSine.mono _ _ _ _
      | exact impl_IsUp.mono _ _ _ _
      | exact impl_SettingHour.mono _ _ _
      | exact impl_UpAngle.mono _ _ _
      | exact LeO.none _
      | refine LeO.ite ?_ ?_
      | refine LeO.bind ?_ (fun _ => ?_)
    · intro y0 y1 y2 y3 y4 y5 y6 y7 y8
      unfold laws_FnSettings.j1
      repeat' first
      | (with_reducible exact ih0 _ _ _ _ _ _ _ _)
      | (with_reducible exact ih1 _ _ _ _ _ _ _ _ _)
      | (with_reducible exact ih2 _ _ _ _)
      | (with_reducible exact impl_AltitudeSine.mono _ _ _ _)
      | (with_reducible exact impl_IsUp.mono _ _ _ _)
      | (with_reducible exact impl_SettingHour.mono _ _ _)
      | (with_reducible exact impl_UpAngle.mono _ _ _)
      | (with_reducible exact LeO.refl _)
      | (with_reducible exact LeO.none _)
      | (with_reducible refine LeO.ite ?_ ?_)
      | (with_reducible refine LeO.bind ?_ (fun _ => ?_))
      | exact ih0 _ _ _ _ _ _ _ _
      | exact ih1 _ _ _ _ _ _ _ _ _
      | exact ih2 _ _ _ _
      | exact impl_AltitudeSine.mono _ _ _ _
      | exact impl_IsUp.mono _ _ _ _
      | exact impl_SettingHour.mono _ _ _
      | exact impl_UpAngle.mono _ _ _
      | exact LeO.none _
      | refine LeO.ite ?_ ?_
      | refine LeO.bind ?_ (fun _ => ?_)
    · intro y0 y1 y2 y3
      unfold laws_FnSettings.j2
      repeat' first
      | (with_reducible exact ih0 _ _ _ _ _ _ _ _)
      | (with_reducible exact ih1 _ _ _ _ _ _ _ _ _)
      | (with_reducible exact ih2 _ _ _ _)
      | (with_reducible exact impl_AltitudeSine.mono _ _ _ _)
      | (with_reducible exact impl_IsUp.mono _ _ _ _)
      | (with_reducible exact impl_SettingHour.mono _ _ _)
      | (with_reducible exact impl_UpAngle.mono _ _ _)
      | (with_reducible exact LeO.refl _)
      | (with_reducible exact LeO.none _)
      | (with_reducible refine LeO.ite ?_ ?_)
      | (with_reducible refine LeO.bind ?_ (fun _ => ?_))
      | exact ih0 _ _ _ _ _ _ _ _
      | exact ih1 _ _ _ _ _ _ _ _ _
      | exact ih2 _ _ _ _
      | exact impl_AltitudeSine.mono _ _ _ _
      | exact impl_IsUp.mono _ _ _ _
      | exact impl_SettingHour.mono _ _ _
      | exact impl_UpAngle.mono _ _ _
      | exact LeO.none _
      | refine LeO.ite ?_ ?_
      | refine LeO.bind ?_ (fun _ => ?_)
theorem laws_FnSettings.mono : ∀ a0 a1 k, LeO (laws_FnSettings.f k a0 a1) (laws_FnSettings.f (k + 1) a0 a1) := by
  intro a0 a1 k
  obtain ⟨ih0, ih1, ih2⟩ := laws_FnSettings.mono_l k
  unfold laws_FnSettings.f
  repeat' first
      | (with_reducible exact ih0 _ _ _ _ _ _ _ _)
      | (with_reducible exact ih1 _ _ _ _ _ _ _ _ _)
      | (with_reducible exact ih2 _ _ _ _)
      | (with_reducible exact impl_AltitudeSine.mono _ _ _ _)
      | (with_reducible exact impl_IsUp.mono _ _ _ _)
      | (with_reducible exact impl_SettingHour.mono _ _ _)
      | (with_reducible exact impl_UpAngle.mono _ _ _)
      | (with_reducible exact LeO.refl _)
      | (with_reducible exact LeO.none _)
      | (with_reducible refine LeO.ite ?_ ?_)
      | (with_reducible refine LeO.bind ?_ (fun _ => ?_))
      | exact ih0 _ _ _ _ _ _ _ _
      | exact ih1 _ _ _ _ _ _ _ _ _
      | exact ih2 _ _ _ _
      | exact impl_AltitudeSine.mono _ _ _ _
      | exact impl_IsUp.mono _ _ _ _
      | exact impl_SettingHour.mono _ _ _
      | exact impl_UpAngle.mono _ _ _
      | exact LeO.none _
      | refine LeO.ite ?_ ?_
      | refine LeO.bind ?_ (fun _ => ?_)
set_option maxHeartbeats 8000000 in
set_option maxRecDepth 100000 in
theorem laws_FnSettings.calls (k : Nat) (A0 : Option Addr) (c0 : Nat) (l0 : List Int) (A1 : Option Addr) (c1 : Nat) (l1 : List Int) (r : Bool) (w : World) (hr0 : Kd.C (Kd.int .u8) w A0 l0.length l0) (hc0 : l0.length ≤ c0) (hr1 : Kd.C (Kd.int .u8) w A1 l1.length l1) (hc1 : l1.length ≤ c1) (h : laws_FnSettings.f k l0 l1 = some r) :
    Calls Try.prog 8 #[.slice A0 l0.length c0, .slice A1 l1.length c1] w fun e w' => e = .returned (.bool r) ∧ Below w.heap.size w w' := by
  have HR0 := Aside0.mk hr0
  have HC0 := Aside0.mk hc0
  clear hr0 hc0
  have HR1 := Aside0.mk hr1
  have HC1 := Aside0.mk hc1
  clear hr1 hc1
  have HB := Aside0.mk (Below.refl w.heap.size w)
  have H : ((laws_a2Long.f l0 l1).bind fun t169 => (if t169 = true then (some true) else ((spec_A2Lat.f l0).bind fun t170 => ((spec_A2Decl.f l1).bind fun t171 => ((impl_SettingHour.f k t170 t171).bind fun bt172 => ((impl_UpAngle.f k t170 t171).bind fun bt174 => ((impl_AltitudeSine.f k t170 t171 0).bind fun bt176 => ((impl_NoonHeight.f t170 t171).bind fun bt178 => (if bt174.2 = 0 then (if bt176.2 = 0 then (if bt178.2 = 0 then (laws_FnSettings.j0 k l1 t170 t171 bt172.1 bt172.2 bt174.1 bt176.1 (bt178.1 != (wrap64 (324000 - (mx (wrap64 (t170 - t171)) (wrap64 (t171 - t170))))))) else (laws_FnSettings.j0 k l1 t170 t171 bt172.1 bt172.2 bt174.1 bt176.1 true)) else (laws_FnSettings.j0 k l1 t170 t171 bt172.1 bt172.2 bt174.1 bt176.1 true)) else (laws_FnSettings.j0 k l1 t170 t171 bt172.1 bt172.2 bt174.1 bt176.1 true)))))))))) = some r := h
  clear h
  replace H := Option.bind_eq_some_iff.mp H
  obtain ⟨t169, A30, H⟩ := H
  replace H : (if t169 = true then (some true) else ((spec_A2Lat.f l0).bind fun t170 => ((spec_A2Decl.f l1).bind fun t171 => ((impl_SettingHour.f k t170 t171).bind fun bt172 => ((impl_UpAngle.f k t170 t171).bind fun bt174 => ((impl_AltitudeSine.f k t170 t171 0).bind fun bt176 => ((impl_NoonHeight.f t170 t171).bind fun bt178 => (if bt174.2 = 0 then (if bt176.2 = 0 then (if bt178.2 = 0 then (laws_FnSettings.j0 k l1 t170 t171 bt172.1 bt172.2 bt174.1 bt176.1 (bt178.1 != (wrap64 (324000 - (mx (wrap64 (t170 - t171)) (wrap64 (t171 - t170))))))) else (laws_FnSettings.j0 k l1 t170 t171 bt172.1 bt172.2 bt174.1 bt176.1 true)) else (laws_FnSettings.j0 k l1 t170 t171 bt172.1 bt172.2 bt174.1 bt176.1 true)) else (laws_FnSettings.j0 k l1 t170 t171 bt172.1 bt172.2 bt174.1 bt176.1 true))))))))) = some r := H
  have A3 := Aside0.mk A30
  clear A30
  by_cases c4 : t169 = true
  · subst c4
    have H1 : (some true) = some r := by rw [if_pos rfl] at H; exact H
    clear H
    have H := H1
    clear H1
    obtain rfl := Option.some.inj H
    go_enter Try.func8, Try.ntmps8
    go_wp2_with (first | ((with_reducible refine gate_callee (f := 25) rfl ?_); refine goesL_ (some 26) rfl rfl Try.func25 (by kernel_rfl) rfl #[.slice A0 l0.length c0, .slice A1 l1.length c1] rfl (by (try simp only [List.map_toArray, List.map_cons, List.map_nil]); first | done | rfl | (simp only [List.length_drop, List.length_take]; rfl)) ?_; (with_reducible refine (laws_a2Long.calls _ _ l0 _ _ l1 true _ ?side1 ?side2 ?side3 ?side4 A3.out).mono ?_); (case side1 => repeat (first | exact HR0.out | (with_reducible refine Kd.C_alloc ?_ _) | (with_reducible refine Kd.C_drewN ?_ _) | (with_reducible refine Kd.C_drew ?_))); (case side2 => exact HC0.out); (case side3 => repeat (first | exact HR1.out | (with_reducible refine Kd.C_alloc ?_ _) | (with_reducible refine Kd.C_drewN ?_ _) | (with_reducible refine Kd.C_drew ?_))); (case side4 => exact HC1.out); rintro e w' ⟨rfl, ⟨nd, rfl⟩⟩; refine ⟨_, rfl, ?_⟩))
    go_ret
    exact ⟨by first | rfl | (simp [errW_none, errW_some] <;> rfl) | (simp [*, errW_none, errW_some] <;> rfl), by repeat (first | (with_reducible first | exact HB.out | apply below_alloc | apply pw_below_drewN | apply below_drew1) | exact HB.out)⟩
  · replace c4 := Bool.eq_false_iff.mpr c4
    subst c4
    have H1 : ((spec_A2Lat.f l0).bind fun t170 => ((spec_A2Decl.f l1).bind fun t171 => ((impl_SettingHour.f k t170 t171).bind fun bt172 => ((impl_UpAngle.f k t170 t171).bind fun bt174 => ((impl_AltitudeSine.f k t170 t171 0).bind fun bt176 => ((impl_NoonHeight.f t170 t171).bind fun bt178 => (if bt174.2 = 0 then (if bt176.2 = 0 then (if bt178.2 = 0 then (laws_FnSettings.j0 k l1 t170 t171 bt172.1 bt172.2 bt174.1 bt176.1 (bt178.1 != (wrap64 (324000 - (mx (wrap64 (t170 - t171)) (wrap64 (t171 - t170))))))) else (laws_FnSettings.j0 k l1 t170 t171 bt172.1 bt172.2 bt174.1 bt176.1 true)) else (laws_FnSettings.j0 k l1 t170 t171 bt172.1 bt172.2 bt174.1 bt176.1 true)) else (laws_FnSettings.j0 k l1 t170 t171 bt172.1 bt172.2 bt174.1 bt176.1 true)))))))) = some r := by rw [if_neg (show ¬ (false = true) by decide)] at H; exact H
    clear H
    have H := H1
    clear H1
    replace H := Option.bind_eq_some_iff.mp H
    obtain ⟨t170, A50, H⟩ := H
    replace H : ((spec_A2Decl.f l1).bind fun t171 => ((impl_SettingHour.f k t170 t171).bind fun bt172 => ((impl_UpAngle.f k t170 t171).bind fun bt174 => ((impl_AltitudeSine.f k t170 t171 0).bind fun bt176 => ((impl_NoonHeight.f t170 t171).bind fun bt178 => (if bt174.2 = 0 then (if bt176.2 = 0 then (if bt178.2 = 0 then (laws_FnSettings.j0 k l1 t170 t171 bt172.1 bt172.2 bt174.1 bt176.1 (bt178.1 != (wrap64 (324000 - (mx (wrap64 (t170 - t171)) (wrap64 (t171 - t170))))))) else (laws_FnSettings.j0 k l1 t170 t171 bt172.1 bt172.2 bt174.1 bt176.1 true)) else (laws_FnSettings.j0 k l1 t170 t171 bt172.1 bt172.2 bt174.1 bt176.1 true)) else (laws_FnSettings.j0 k l1 t170 t171 bt172.1 bt172.2 bt174.1 bt176.1 true))))))) = some r := H
    have A5 := Aside0.mk A50
    clear A50
    replace H := Option.bind_eq_some_iff.mp H
    obtain ⟨t171, A60, H⟩ := H
    replace H : ((impl_SettingHour.f k t170 t171).bind fun bt172 => ((impl_UpAngle.f k t170 t171).bind fun bt174 => ((impl_AltitudeSine.f k t170 t171 0).bind fun bt176 => ((impl_NoonHeight.f t170 t171).bind fun bt178 => (if bt174.2 = 0 then (if bt176.2 = 0 then (if bt178.2 = 0 then (laws_FnSettings.j0 k l1 t170 t171 bt172.1 bt172.2 bt174.1 bt176.1 (bt178.1 != (wrap64 (324000 - (mx (wrap64 (t170 - t171)) (wrap64 (t171 - t170))))))) else (laws_FnSettings.j0 k l1 t170 t171 bt172.1 bt172.2 bt174.1 bt176.1 true)) else (laws_FnSettings.j0 k l1 t170 t171 bt172.1 bt172.2 bt174.1 bt176.1 true)) else (laws_FnSettings.j0 k l1 t170 t171 bt172.1 bt172.2 bt174.1 bt176.1 true)))))) = some r := H
    have A6 := Aside0.mk A60
    clear A60
    replace H := Option.bind_eq_some_iff.mp H
    obtain ⟨⟨t172, t173⟩, A70, H⟩ := H
    replace H : ((impl_UpAngle.f k t170 t171).bind fun bt174 => ((impl_AltitudeSine.f k t170 t171 0).bind fun bt176 => ((impl_NoonHeight.f t170 t171).bind fun bt178 => (if bt174.2 = 0 then (if bt176.2 = 0 then (if bt178.2 = 0 then (laws_FnSettings.j0 k l1 t170 t171 t172 t173 bt174.1 bt176.1 (bt178.1 != (wrap64 (324000 - (mx (wrap64 (t170 - t171)) (wrap64 (t171 - t170))))))) else (laws_FnSettings.j0 k l1 t170 t171 t172 t173 bt174.1 bt176.1 true)) else (laws_FnSettings.j0 k l1 t170 t171 t172 t173 bt174.1 bt176.1 true)) else (laws_FnSettings.j0 k l1 t170 t171 t172 t173 bt174.1 bt176.1 true))))) = some r := H
    have A7 := Aside0.mk A70
    clear A70
    replace H := Option.bind_eq_some_iff.mp H
    obtain ⟨⟨t174, t175⟩, A80, H⟩ := H
    replace H : ((impl_AltitudeSine.f k t170 t171 0).bind fun bt176 => ((impl_NoonHeight.f t170 t171).bind fun bt178 => (if t175 = 0 then (if bt176.2 = 0 then (if bt178.2 = 0 then (laws_FnSettings.j0 k l1 t170 t171 t172 t173 t174 bt176.1 (bt178.1 != (wrap64 (324000 - (mx (wrap64 (t170 - t171)) (wrap64 (t171 - t170))))))) else (laws_FnSettings.j0 k l1 t170 t171 t172 t173 t174 bt176.1 true)) else (laws_FnSettings.j0 k l1 t170 t171 t172 t173 t174 bt176.1 true)) else (laws_FnSettings.j0 k l1 t170 t171 t172 t173 t174 bt176.1 true)))) = some r := H
    have A8 := Aside0.mk A80
    clear A80
    replace H := Option.bind_eq_some_iff.mp H
    obtain ⟨⟨t176, t177⟩, A90, H⟩ := H
    replace H : ((impl_NoonHeight.f t170 t171).bind fun bt178 => (if t175 = 0 then (if t177 = 0 then (if bt178.2 = 0 then (laws_FnSettings.j0 k l1 t170 t171 t172 t173 t174 t176 (bt178.1 != (wrap64 (324000 - (mx (wrap64 (t170 - t171)) (wrap64 (t171 - t170))))))) else (laws_FnSettings.j0 k l1 t170 t171 t172 t173 t174 t176 true)) else (laws_FnSettings.j0 k l1 t170 t171 t172 t173 t174 t176 true)) else (laws_FnSettings.j0 k l1 t170 t171 t172 t173 t174 t176 true))) = some r := H
    have A9 := Aside0.mk A90
    clear A90
    replace H := Option.bind_eq_some_iff.mp H
    obtain ⟨⟨t178, t179⟩, A100, H⟩ := H
    replace H : (if t175 = 0 then (if t177 = 0 then (if t179 = 0 then (laws_FnSettings.j0 k l1 t170 t171 t172 t173 t174 t176 (t178 != (wrap64 (324000 - (mx (wrap64 (t170 - t171)) (wrap64 (t171 - t170))))))) else (laws_FnSettings.j0 k l1 t170 t171 t172 t173 t174 t176 true)) else (laws_FnSettings.j0 k l1 t170 t171 t172 t173 t174 t176 true)) else (laws_FnSettings.j0 k l1 t170 t171 t172 t173 t174 t176 true)) = some r := H
    have A10 := Aside0.mk A100
    clear A100
    have HC11 := Aside0.mk H
    clear H
    go_enter Try.func8, Try.ntmps8
    go_upto_region 9 with (first | ((with_reducible refine gate_callee (f := 25) rfl ?_); refine goesL_ (some 26) rfl rfl Try.func25 (by kernel_rfl) rfl #[.slice A0 l0.length c0, .slice A1 l1.length c1] rfl (by (try simp only [List.map_toArray, List.map_cons, List.map_nil]); first | done | rfl | (simp only [List.length_drop, List.length_take]; rfl)) ?_; (with_reducible refine (laws_a2Long.calls _ _ l0 _ _ l1 false _ ?side1 ?side2 ?side3 ?side4 A3.out).mono ?_); (case side1 => repeat (first | exact HR0.out | (with_reducible refine Kd.C_alloc ?_ _) | (with_reducible refine Kd.C_drewN ?_ _) | (with_reducible refine Kd.C_drew ?_))); (case side2 => exact HC0.out); (case side3 => repeat (first | exact HR1.out | (with_reducible refine Kd.C_alloc ?_ _) | (with_reducible refine Kd.C_drewN ?_ _) | (with_reducible refine Kd.C_drew ?_))); (case side4 => exact HC1.out); rintro e w' ⟨rfl, ⟨nd, rfl⟩⟩; refine ⟨_, rfl, ?_⟩) | ((with_reducible refine gate_callee (f := 26) rfl ?_); refine goesL_ (some 28) rfl rfl Try.func26 (by kernel_rfl) rfl #[.slice A0 l0.length c0] rfl (by (try simp only [List.map_toArray, List.map_cons, List.map_nil]); first | done | rfl | (simp only [List.length_drop, List.length_take]; rfl)) ?_; (with_reducible refine (spec_A2Lat.calls _ _ l0 t170 _ ?side1 ?side2 A5.out).mono ?_); (case side1 => repeat (first | exact HR0.out | (with_reducible refine Kd.C_alloc ?_ _) | (with_reducible refine Kd.C_drewN ?_ _) | (with_reducible refine Kd.C_drew ?_))); (case side2 => exact HC0.out); rintro e w12 ⟨rfl, hb⟩; refine ⟨_, rfl, ?_⟩; have n0_ := Aside0.mk (below_step (by repeat (first | (with_reducible first | exact HB.out | apply below_alloc | apply pw_below_drewN | apply below_drew1) | exact HB.out)) hb); clear HB; have HB := n0_; clear n0_; (try clear hb); (try clear hb2); (try clear hk); (try clear hi)) | ((with_reducible refine gate_callee (f := 27) rfl ?_); refine goesL_ (some 30) rfl rfl Try.func27 (by kernel_rfl) rfl #[.slice A1 l1.length c1] rfl (by (try simp only [List.map_toArray, List.map_cons, List.map_nil]); first | done | rfl | (simp only [List.length_drop, List.length_take]; rfl)) ?_; (with_reducible refine (spec_A2Decl.calls _ _ l1 t171 _ ?side1 ?side2 A6.out).mono ?_); (case side1 => repeat (first | exact (Kd.C_below HR1.out HB.out) | (with_reducible refine Kd.C_alloc ?_ _) | (with_reducible refine Kd.C_drewN ?_ _) | (with_reducible refine Kd.C_drew ?_))); (case side2 => exact HC1.out); rintro e w13 ⟨rfl, hb⟩; refine ⟨_, rfl, ?_⟩; have n0_ := Aside0.mk (below_step (by repeat (first | (with_reducible first | exact HB.out | apply below_alloc | apply pw_below_drewN | apply below_drew1) | exact HB.out)) hb); clear HB; have HB := n0_; clear n0_; (try clear hb); (try clear hb2); (try clear hk); (try clear hi)) | ((with_reducible refine gate_callee (f := 28) rfl ?_); refine goesL_ (some 34) rfl rfl Try.func28 (by kernel_rfl) rfl #[.int .i64 t170, .int .i64 t171] rfl (by (try simp only [List.map_toArray, List.map_cons, List.map_nil]); first | done | rfl | (simp only [List.length_drop, List.length_take]; rfl)) ?_; (with_reducible refine (impl_SettingHour.calls k t170 t171 t172 t173 _ A7.out).mono ?_); rintro e w14 ⟨rfl, hb⟩; refine ⟨_, rfl, ?_⟩; have n0_ := Aside0.mk (below_step (by repeat (first | (with_reducible first | exact HB.out | apply below_alloc | apply pw_below_drewN | apply below_drew1) | exact HB.out)) hb); clear HB; have HB := n0_; clear n0_; (try clear hb); (try clear hb2); (try clear hk); (try clear hi)) | ((with_reducible refine gate_callee (f := 29) rfl ?_); refine goesL_ (some 40) rfl rfl Try.func29 (by kernel_rfl) rfl #[.int .i64 t170, .int .i64 t171] rfl (by (try simp only [List.map_toArray, List.map_cons, List.map_nil]); first | done | rfl | (simp only [List.length_drop, List.length_take]; rfl)) ?_; (with_reducible refine (impl_UpAngle.calls k t170 t171 t174 t175 _ A8.out).mono ?_); rintro e w15 ⟨rfl, hb⟩; refine ⟨_, rfl, ?_⟩; have n0_ := Aside0.mk (below_step (by repeat (first | (with_reducible first | exact HB.out | apply below_alloc | apply pw_below_drewN | apply below_drew1) | exact HB.out)) hb); clear HB; have HB := n0_; clear n0_; (try clear hb); (try clear hb2); (try clear hk); (try clear hi)) | ((with_reducible refine gate_callee (f := 20) rfl ?_); refine goesL_ (some 46) rfl rfl Try.func20 (by kernel_rfl) rfl #[.int .i64 t170, .int .i64 t171, .int .i64 0] rfl (by (try simp only [List.map_toArray, List.map_cons, List.map_nil]); first | done | rfl | (simp only [List.length_drop, List.length_take]; rfl)) ?_; (with_reducible refine (impl_AltitudeSine.calls k t170 t171 0 t176 t177 _ A9.out).mono ?_); rintro e w16 ⟨rfl, hb⟩; refine ⟨_, rfl, ?_⟩; have n0_ := Aside0.mk (below_step (by repeat (first | (with_reducible first | exact HB.out | apply below_alloc | apply pw_below_drewN | apply below_drew1) | exact HB.out)) hb); clear HB; have HB := n0_; clear n0_; (try clear hb); (try clear hb2); (try clear hk); (try clear hi)) | ((with_reducible refine gate_callee (f := 16) rfl ?_); refine goesL_ (some 52) rfl rfl Try.func16 (by kernel_rfl) rfl #[.int .i64 t170, .int .i64 t171] rfl (by (try simp only [List.map_toArray, List.map_cons, List.map_nil]); first | done | rfl | (simp only [List.length_drop, List.length_take]; rfl)) ?_; (with_reducible refine (impl_NoonHeight.calls t170 t171 t178 t179 _ A10.out).mono ?_); rintro e w17 ⟨rfl, hb⟩; refine ⟨_, rfl, ?_⟩; have n0_ := Aside0.mk (below_step (by repeat (first | (with_reducible first | exact HB.out | apply below_alloc | apply pw_below_drewN | apply below_drew1) | exact HB.out)) hb); clear HB; have HB := n0_; clear n0_; (try clear hb); (try clear hb2); (try clear hk); (try clear hi)))
    (try simp only [Act.put, List.setIfInBounds_toArray, List.set_cons_zero, List.set_cons_succ])
    go_cut [76] (fun v76 wc => ∃ (kq : Nat) (x76_10 : Bool), v76 = .bool x76_10 ∧ Aside0 (laws_FnSettings.j0 kq l1 t170 t171 t172 t173 t174 t176 x76_10 = some r) ∧ Aside0 (kq ≤ k) ∧ Aside0 (Below w.heap.size w wc))
    case first =>
      have H := HC11.out
      clear HC11
      by_cases c18 : t175 = 0
      · rw [if_pos c18] at H
        have c18b0 : (t175 == 0) = true := beq_iff_eq.mpr c18
        have c18b1 : (t175 != 0) = false := bne_eq_false_iff_eq.mpr c18
        clear c18
        (first | rw [c18b0] | (simp only [i64_w, i32_w]; rw [c18b0]) | skip)
        by_cases c19 : t177 = 0
        · rw [if_pos c19] at H
          have c19b0 : (t177 == 0) = true := beq_iff_eq.mpr c19
          have c19b1 : (t177 != 0) = false := bne_eq_false_iff_eq.mpr c19
          clear c19
          by_cases c20 : t179 = 0
          · rw [if_pos c20] at H
            have c20b0 : (t179 == 0) = true := beq_iff_eq.mpr c20
            have c20b1 : (t179 != 0) = false := bne_eq_false_iff_eq.mpr c20
            clear c20
            obtain ⟨ji21, hji21⟩ : ∃ j_ : Int, (mx (wrap64 (t170 - t171)) (wrap64 (t171 - t170))) = j_ := ⟨_, rfl⟩
            replace H : (laws_FnSettings.j0 k l1 t170 t171 t172 t173 t174 t176 (t178 != (wrap64 (324000 - (ji21))))) = some r := by first | (rw [hji21] at H; exact H) | (simp only [hji21] at H ⊢; exact H)
            have hji21_ : (if (wrap64 (t170 - t171)) < (wrap64 (t171 - t170)) then (wrap64 (t171 - t170)) else (wrap64 (t170 - t171))) = ji21 := hji21
            have H' := Aside0.mk H
            clear H
            go_wp2
            go_meet
            case rel => exact ⟨_, ((t178 != (wrap64 (324000 - (ji21))))), (by first | rfl | (simp; done) | (simp only [← hji21] <;> (first | rfl | simp)) | (simp [*]; done)), H', ⟨by first | omega | exact Nat.le_refl _⟩, ⟨by repeat (first | (with_reducible first | exact HB.out | apply below_alloc | apply pw_below_drewN | apply below_drew1) | exact HB.out)⟩⟩
          · rw [if_neg c20] at H
            have c20b0 : (t179 == 0) = false := beq_eq_false_iff_ne.mpr c20
            have c20b1 : (t179 != 0) = true := bne_iff_ne.mpr c20
            have H' := Aside0.mk H
            clear H
            go_wp2
            go_meet
            case rel => exact ⟨_, (true), (by first | rfl | (simp; done) | (simp [*]; done)), H', ⟨by first | omega | exact Nat.le_refl _⟩, ⟨by repeat (first | (with_reducible first | exact HB.out | apply below_alloc | apply pw_below_drewN | apply below_drew1) | exact HB.out)⟩⟩
        · rw [if_neg c19] at H
          have c19b0 : (t177 == 0) = false := beq_eq_false_iff_ne.mpr c19
          have c19b1 : (t177 != 0) = true := bne_iff_ne.mpr c19
          have H' := Aside0.mk H
          clear H
          go_wp2
          go_meet
          case rel => exact ⟨_, (true), (by first | rfl | (simp; done) | (simp [*]; done)), H', ⟨by first | omega | exact Nat.le_refl _⟩, ⟨by repeat (first | (with_reducible first | exact HB.out | apply below_alloc | apply pw_below_drewN | apply below_drew1) | exact HB.out)⟩⟩
      · rw [if_neg c18] at H
        have c18b0 : (t175 == 0) = false := beq_eq_false_iff_ne.mpr c18
        have c18b1 : (t175 != 0) = true := bne_iff_ne.mpr c18
        (first | rw [c18b0] | (simp only [i64_w, i32_w]; rw [c18b0]) | skip)
        have H' := Aside0.mk H
        clear H
        go_wp2
        go_meet
        case rel => exact ⟨_, (true), (by first | rfl | (simp; done) | (simp [*]; done)), H', ⟨by first | omega | exact Nat.le_refl _⟩, ⟨by repeat (first | (with_reducible first | exact HB.out | apply below_alloc | apply pw_below_drewN | apply below_drew1) | exact HB.out)⟩⟩
    case rest =>
      clear HC11
      try clear c1
      try clear c2
      try clear p2
      try clear c4
      try clear p6
      try clear c8
      try clear c16
      try clear c18
      try clear c18b0
      try clear c18b1
      try clear c19
      try clear c19b0
      try clear c19b1
      try clear c20
      try clear c20b0
      try clear c20b1
      obtain ⟨kq, x76_10, rfl, HA, HJ10, HB⟩ := hcut
      cases kq with
      | zero => exact absurd HA.out (by simp [laws_FnSettings.j0])
      | succ kj10 =>
        have H := HA.out
        clear HA
        simp only [laws_FnSettings.j0] at H
        by_cases c22 : x76_10 = true
        · subst c22
          have H1 : (some false) = some r := by rw [if_pos rfl] at H; exact H
          clear H
          have H := H1
          clear H1
          obtain rfl := Option.some.inj H
          go_wp2
          go_ret
          exact ⟨by first | rfl | (simp [errW_none, errW_some] <;> rfl) | (simp [*, errW_none, errW_some] <;> rfl), by repeat (first | (with_reducible first | exact HB.out | apply below_alloc | apply pw_below_drewN | apply below_drew1) | exact HB.out)⟩
        · replace c22 := Bool.eq_false_iff.mpr c22
          subst c22
          have H1 : ((laws_a2At.f l1 0 181).bind fun t180 => ((impl_AltitudeSine.f kj10 t170 t171 (wrap64 (3600 * t180))).bind fun bt181 => ((impl_IsUp.f kj10 t170 t171 (wrap64 (3600 * t180))).bind fun bt183 => (if bt181.2 = 0 then (if bt181.1 > t176 then (laws_FnSettings.j1 kj10 t170 t171 t172 t173 t174 t176 (wrap64 (3600 * t180)) bt183.1 true) else (if bt183.2 = 0 then (laws_FnSettings.j1 kj10 t170 t171 t172 t173 t174 t176 (wrap64 (3600 * t180)) bt183.1 (bt183.1 != (decide (bt181.1 ≥ 0)))) else (laws_FnSettings.j1 kj10 t170 t171 t172 t173 t174 t176 (wrap64 (3600 * t180)) bt183.1 true))) else (laws_FnSettings.j1 kj10 t170 t171 t172 t173 t174 t176 (wrap64 (3600 * t180)) bt183.1 true))))) = some r := by rw [if_neg (show ¬ (false = true) by decide)] at H; exact H
          clear H
          have H := H1
          clear H1
          replace H := Option.bind_eq_some_iff.mp H
          obtain ⟨t180, A230, H⟩ := H
          replace H : ((impl_AltitudeSine.f kj10 t170 t171 (wrap64 (3600 * t180))).bind fun bt181 => ((impl_IsUp.f kj10 t170 t171 (wrap64 (3600 * t180))).bind fun bt183 => (if bt181.2 = 0 then (if bt181.1 > t176 then (laws_FnSettings.j1 kj10 t170 t171 t172 t173 t174 t176 (wrap64 (3600 * t180)) bt183.1 true) else (if bt183.2 = 0 then (laws_FnSettings.j1 kj10 t170 t171 t172 t173 t174 t176 (wrap64 (3600 * t180)) bt183.1 (bt183.1 != (decide (bt181.1 ≥ 0)))) else (laws_FnSettings.j1 kj10 t170 t171 t172 t173 t174 t176 (wrap64 (3600 * t180)) bt183.1 true))) else (laws_FnSettings.j1 kj10 t170 t171 t172 t173 t174 t176 (wrap64 (3600 * t180)) bt183.1 true)))) = some r := H
          have A23 := Aside0.mk A230
          clear A230
          replace H := Option.bind_eq_some_iff.mp H
          obtain ⟨⟨t181, t182⟩, A240, H⟩ := H
          replace H : ((impl_IsUp.f kj10 t170 t171 (wrap64 (3600 * t180))).bind fun bt183 => (if t182 = 0 then (if t181 > t176 then (laws_FnSettings.j1 kj10 t170 t171 t172 t173 t174 t176 (wrap64 (3600 * t180)) bt183.1 true) else (if bt183.2 = 0 then (laws_FnSettings.j1 kj10 t170 t171 t172 t173 t174 t176 (wrap64 (3600 * t180)) bt183.1 (bt183.1 != (decide (t181 ≥ 0)))) else (laws_FnSettings.j1 kj10 t170 t171 t172 t173 t174 t176 (wrap64 (3600 * t180)) bt183.1 true))) else (laws_FnSettings.j1 kj10 t170 t171 t172 t173 t174 t176 (wrap64 (3600 * t180)) bt183.1 true))) = some r := H
          have A24 := Aside0.mk A240
          clear A240
          replace H := Option.bind_eq_some_iff.mp H
          obtain ⟨⟨t183, t184⟩, A250, H⟩ := H
          replace H : (if t182 = 0 then (if t181 > t176 then (laws_FnSettings.j1 kj10 t170 t171 t172 t173 t174 t176 (wrap64 (3600 * t180)) t183 true) else (if t184 = 0 then (laws_FnSettings.j1 kj10 t170 t171 t172 t173 t174 t176 (wrap64 (3600 * t180)) t183 (t183 != (decide (t181 ≥ 0)))) else (laws_FnSettings.j1 kj10 t170 t171 t172 t173 t174 t176 (wrap64 (3600 * t180)) t183 true))) else (laws_FnSettings.j1 kj10 t170 t171 t172 t173 t174 t176 (wrap64 (3600 * t180)) t183 true)) = some r := H
          have A25 := Aside0.mk A250
          clear A250
          have HC26 := Aside0.mk H
          clear H
          go_upto_region 14 with (first | ((with_reducible refine gate_callee (f := 30) rfl ?_); refine goesL_ (some 78) rfl rfl Try.func30 (by kernel_rfl) rfl #[.slice A1 l1.length c1, .int .i64 0, .int .i64 181] rfl (by (try simp only [List.map_toArray, List.map_cons, List.map_nil]); first | done | rfl | (simp only [List.length_drop, List.length_take]; rfl)) ?_; (with_reducible refine (laws_a2At.calls _ _ l1 0 181 t180 _ ?side1 ?side2 A23.out).mono ?_); (case side1 => repeat (first | exact (Kd.C_below HR1.out HB.out) | (with_reducible refine Kd.C_alloc ?_ _) | (with_reducible refine Kd.C_drewN ?_ _) | (with_reducible refine Kd.C_drew ?_))); (case side2 => exact HC1.out); rintro e w' ⟨rfl, ⟨nd, rfl⟩⟩; refine ⟨_, rfl, ?_⟩) | ((with_reducible refine gate_callee (f := 20) rfl ?_); refine goesL_ (some 84) rfl rfl Try.func20 (by kernel_rfl) rfl #[.int .i64 t170, .int .i64 t171, .int .i64 (wrap64 (3600 * t180))] rfl (by (try simp only [List.map_toArray, List.map_cons, List.map_nil]); first | done | rfl | (simp only [List.length_drop, List.length_take]; rfl)) ?_; (with_reducible refine (impl_AltitudeSine.calls kj10 t170 t171 (wrap64 (3600 * t180)) t181 t182 _ A24.out).mono ?_); rintro e w27 ⟨rfl, hb⟩; refine ⟨_, rfl, ?_⟩; have n0_ := Aside0.mk (below_step (by repeat (first | (with_reducible first | exact HB.out | apply below_alloc | apply pw_below_drewN | apply below_drew1) | exact HB.out)) hb); clear HB; have HB := n0_; clear n0_; (try clear hb); (try clear hb2); (try clear hk); (try clear hi)) | ((with_reducible refine gate_callee (f := 22) rfl ?_); refine goesL_ (some 91) rfl rfl Try.func22 (by kernel_rfl) rfl #[.int .i64 t170, .int .i64 t171, .int .i64 (wrap64 (3600 * t180))] rfl (by (try simp only [List.map_toArray, List.map_cons, List.map_nil]); first | done | rfl | (simp only [List.length_drop, List.length_take]; rfl)) ?_; (with_reducible refine (impl_IsUp.calls kj10 t170 t171 (wrap64 (3600 * t180)) t183 t184 _ A25.out).mono ?_); rintro e w28 ⟨rfl, hb⟩; refine ⟨_, rfl, ?_⟩; have n0_ := Aside0.mk (below_step (by repeat (first | (with_reducible first | exact HB.out | apply below_alloc | apply pw_below_drewN | apply below_drew1) | exact HB.out)) hb); clear HB; have HB := n0_; clear n0_; (try clear hb); (try clear hb2); (try clear hk); (try clear hi)))
          (try simp only [Act.put, List.setIfInBounds_toArray, List.set_cons_zero, List.set_cons_succ])
          go_cut [110] (fun v110 wc => ∃ (kq : Nat) (x110_25 : Bool), v110 = .bool x110_25 ∧ Aside0 (laws_FnSettings.j1 kq t170 t171 t172 t173 t174 t176 (wrap64 (3600 * t180)) t183 x110_25 = some r) ∧ Aside0 (kq ≤ kj10) ∧ Aside0 (Below w.heap.size w wc))
          case first =>
            have H := HC26.out
            clear HC26
            by_cases c29 : t182 = 0
            · rw [if_pos c29] at H
              have c29b0 : (t182 == 0) = true := beq_iff_eq.mpr c29
              have c29b1 : (t182 != 0) = false := bne_eq_false_iff_eq.mpr c29
              clear c29
              (first | rw [c29b0] | (simp only [i64_w, i32_w]; rw [c29b0]) | skip)
              by_cases c30 : t181 > t176
              · rw [if_pos c30] at H
                have c30b0 : decide (t176 < t181) = true := decide_eq_true c30
                clear c30
                have H' := Aside0.mk H
                clear H
                go_wp2
                go_meet
                case rel => exact ⟨_, (true), (by first | rfl | (simp; done) | (simp [*]; done)), H', ⟨by have := HJ10.out; first | omega | exact Nat.le_refl _⟩, ⟨by repeat (first | (with_reducible first | exact HB.out | apply below_alloc | apply pw_below_drewN | apply below_drew1) | exact HB.out)⟩⟩
              · rw [if_neg c30] at H
                have c30b0 : decide (t176 < t181) = false := decide_eq_false c30
                clear c30
                by_cases c31 : t184 = 0
                · rw [if_pos c31] at H
                  have c31b0 : (t184 == 0) = true := beq_iff_eq.mpr c31
                  have c31b1 : (t184 != 0) = false := bne_eq_false_iff_eq.mpr c31
                  clear c31
                  have H' := Aside0.mk H
                  clear H
                  go_wp2
                  go_meet
                  case rel => exact ⟨_, ((t183 != (decide (t181 ≥ 0)))), (by first | rfl | (simp; done) | (simp [*]; done)), H', ⟨by have := HJ10.out; first | omega | exact Nat.le_refl _⟩, ⟨by repeat (first | (with_reducible first | exact HB.out | apply below_alloc | apply pw_below_drewN | apply below_drew1) | exact HB.out)⟩⟩
                · rw [if_neg c31] at H
                  have c31b0 : (t184 == 0) = false := beq_eq_false_iff_ne.mpr c31
                  have c31b1 : (t184 != 0) = true := bne_iff_ne.mpr c31
                  have H' := Aside0.mk H
                  clear H
                  go_wp2
                  go_meet
                  case rel => exact ⟨_, (true), (by first | rfl | (simp; done) | (simp [*]; done)), H', ⟨by have := HJ10.out; first | omega | exact Nat.le_refl _⟩, ⟨by repeat (first | (with_reducible first | exact HB.out | apply below_alloc | apply pw_below_drewN | apply below_drew1) | exact HB.out)⟩⟩
            · rw [if_neg c29] at H
              have c29b0 : (t182 == 0) = false := beq_eq_false_iff_ne.mpr c29
              have c29b1 : (t182 != 0) = true := bne_iff_ne.mpr c29
              (first | rw [c29b0] | (simp only [i64_w, i32_w]; rw [c29b0]) | skip)
              have H' := Aside0.mk H
              clear H
              go_wp2
              go_meet
              case rel => exact ⟨_, (true), (by first | rfl | (simp; done) | (simp [*]; done)), H', ⟨by have := HJ10.out; first | omega | exact Nat.le_refl _⟩, ⟨by repeat (first | (with_reducible first | exact HB.out | apply below_alloc | apply pw_below_drewN | apply below_drew1) | exact HB.out)⟩⟩
          case rest =>
            clear HC26
            try clear c1
            try clear c2
            try clear p2
            try clear c3
            try clear c4
            try clear p6
            try clear c8
            try clear c16
            try clear c18
            try clear c18b0
            try clear c18b1
            try clear c19
            try clear c19b0
            try clear c19b1
            try clear c20
            try clear c20b0
            try clear c20b1
            try clear c22
            try clear c25
            try clear c26
            try clear c27
            try clear c28
            try clear c29
            try clear c29b0
            try clear c29b1
            try clear c30
            try clear c30b0
            try clear c31
            try clear c31b0
            try clear c31b1
            try clear p2
            try clear p6
            obtain ⟨kq, x110_25, rfl, HA, HJ25, HB⟩ := hcut
            cases kq with
            | zero => exact absurd HA.out (by simp [laws_FnSettings.j1])
            | succ kj25 =>
              have H := HA.out
              clear HA
              simp only [laws_FnSettings.j1] at H
              by_cases c32 : x110_25 = true
              · subst c32
                have H1 : (some false) = some r := by rw [if_pos rfl] at H; exact H
                clear H
                have H := H1
                clear H1
                obtain rfl := Option.some.inj H
                go_wp2
                go_ret
                exact ⟨by first | rfl | (simp [errW_none, errW_some] <;> rfl) | (simp [*, errW_none, errW_some] <;> rfl), by repeat (first | (with_reducible first | exact HB.out | apply below_alloc | apply pw_below_drewN | apply below_drew1) | exact HB.out)⟩
              · replace c32 := Bool.eq_false_iff.mpr c32
                subst c32
                have H1 : (if t173 = 6 then (if t176 < 0 then (if t174 = 0 then (some (!t183)) else (some false)) else (some false)) else (if t173 = 3 then (if t174 = 1296000 then (some t183) else (some false)) else (if t173 = 0 then (if t172 < 1 then (laws_FnSettings.j2 kj25 t170 t171 t172 true) else (if t172 > 648000 then (laws_FnSettings.j2 kj25 t170 t171 t172 true) else (if t174 = (wrap64 (2 * t172)) then (laws_FnSettings.j2 kj25 t170 t171 t172 (t183 != (decide ((wrap64 (3600 * t180)) < t172)))) else (laws_FnSettings.j2 kj25 t170 t171 t172 true)))) else (some false)))) = some r := by rw [if_neg (show ¬ (false = true) by decide)] at H; exact H
                clear H
                have H := H1
                clear H1
                by_cases c33 : t173 = 6
                · rw [if_pos c33] at H
                  have c33b0 : (t173 == 6) = true := beq_iff_eq.mpr c33
                  have c33b1 : (t173 != 6) = false := bne_eq_false_iff_eq.mpr c33
                  clear c33
                  by_cases c34 : t176 < 0
                  · rw [if_pos c34] at H
                    have c34b0 : decide (t176 < 0) = true := decide_eq_true c34
                    clear c34
                    by_cases c35 : t174 = 0
                    · rw [if_pos c35] at H
                      have c35b0 : (t174 == 0) = true := beq_iff_eq.mpr c35
                      have c35b1 : (t174 != 0) = false := bne_eq_false_iff_eq.mpr c35
                      clear c35
                      obtain rfl := Option.some.inj H
                      go_wp2
                      go_ret
                      exact ⟨by first | rfl | (simp [errW_none, errW_some] <;> rfl) | (simp [*, errW_none, errW_some] <;> rfl), by repeat (first | (with_reducible first | exact HB.out | apply below_alloc | apply pw_below_drewN | apply below_drew1) | exact HB.out)⟩
                    · rw [if_neg c35] at H
                      have c35b0 : (t174 == 0) = false := beq_eq_false_iff_ne.mpr c35
                      have c35b1 : (t174 != 0) = true := bne_iff_ne.mpr c35
                      obtain rfl := Option.some.inj H
                      go_wp2
                      go_ret
                      exact ⟨by first | rfl | (simp [errW_none, errW_some] <;> rfl) | (simp [*, errW_none, errW_some] <;> rfl), by repeat (first | (with_reducible first | exact HB.out | apply below_alloc | apply pw_below_drewN | apply below_drew1) | exact HB.out)⟩
                  · rw [if_neg c34] at H
                    have c34b0 : decide (t176 < 0) = false := decide_eq_false c34
                    clear c34
                    obtain rfl := Option.some.inj H
                    go_wp2
                    go_ret
                    exact ⟨by first | rfl | (simp [errW_none, errW_some] <;> rfl) | (simp [*, errW_none, errW_some] <;> rfl), by repeat (first | (with_reducible first | exact HB.out | apply below_alloc | apply pw_below_drewN | apply below_drew1) | exact HB.out)⟩
                · rw [if_neg c33] at H
                  have c33b0 : (t173 == 6) = false := beq_eq_false_iff_ne.mpr c33
                  have c33b1 : (t173 != 6) = true := bne_iff_ne.mpr c33
                  by_cases c36 : t173 = 3
                  · rw [if_pos c36] at H
                    have c36b0 : (t173 == 3) = true := beq_iff_eq.mpr c36
                    have c36b1 : (t173 != 3) = false := bne_eq_false_iff_eq.mpr c36
                    clear c36
                    by_cases c37 : t174 = 1296000
                    · rw [if_pos c37] at H
                      have c37b0 : (t174 == 1296000) = true := beq_iff_eq.mpr c37
                      have c37b1 : (t174 != 1296000) = false := bne_eq_false_iff_eq.mpr c37
                      clear c37
                      obtain rfl := Option.some.inj H
                      go_wp2
                      go_ret
                      exact ⟨by first | rfl | (simp [errW_none, errW_some] <;> rfl) | (simp [*, errW_none, errW_some] <;> rfl), by repeat (first | (with_reducible first | exact HB.out | apply below_alloc | apply pw_below_drewN | apply below_drew1) | exact HB.out)⟩
                    · rw [if_neg c37] at H
                      have c37b0 : (t174 == 1296000) = false := beq_eq_false_iff_ne.mpr c37
                      have c37b1 : (t174 != 1296000) = true := bne_iff_ne.mpr c37
                      obtain rfl := Option.some.inj H
                      go_wp2
                      go_ret
                      exact ⟨by first | rfl | (simp [errW_none, errW_some] <;> rfl) | (simp [*, errW_none, errW_some] <;> rfl), by repeat (first | (with_reducible first | exact HB.out | apply below_alloc | apply pw_below_drewN | apply below_drew1) | exact HB.out)⟩
                  · rw [if_neg c36] at H
                    have c36b0 : (t173 == 3) = false := beq_eq_false_iff_ne.mpr c36
                    have c36b1 : (t173 != 3) = true := bne_iff_ne.mpr c36
                    by_cases c38 : t173 = 0
                    · rw [if_pos c38] at H
                      have c38b0 : (t173 == 0) = true := beq_iff_eq.mpr c38
                      have c38b1 : (t173 != 0) = false := bne_eq_false_iff_eq.mpr c38
                      clear c38
                      have HC39 := Aside0.mk H
                      clear H
                      go_upto_region 22 with (fail)
                      go_cut [151] (fun v151 wc => ∃ (kq : Nat) (x151_38 : Bool), v151 = .bool x151_38 ∧ Aside0 (laws_FnSettings.j2 kq t170 t171 t172 x151_38 = some r) ∧ Aside0 (kq ≤ kj25) ∧ Aside0 (Below w.heap.size w wc))
                      case first =>
                        have H := HC39.out
                        clear HC39
                        by_cases c40 : t172 < 1
                        · rw [if_pos c40] at H
                          have c40b0 : decide (t172 < 1) = true := decide_eq_true c40
                          clear c40
                          (first | rw [c40b0] | (simp only [i64_w, i32_w]; rw [c40b0]) | skip)
                          have H' := Aside0.mk H
                          clear H
                          go_wp2
                          go_meet
                          case rel => exact ⟨_, (true), (by first | rfl | (simp; done) | (simp [*]; done)), H', ⟨by have := HJ10.out; have := HJ25.out; first | omega | exact Nat.le_refl _⟩, ⟨by repeat (first | (with_reducible first | exact HB.out | apply below_alloc | apply pw_below_drewN | apply below_drew1) | exact HB.out)⟩⟩
                        · rw [if_neg c40] at H
                          have c40b0 : decide (t172 < 1) = false := decide_eq_false c40
                          clear c40
                          (first | rw [c40b0] | (simp only [i64_w, i32_w]; rw [c40b0]) | skip)
                          by_cases c41 : t172 > 648000
                          · rw [if_pos c41] at H
                            have c41b0 : decide (648000 < t172) = true := decide_eq_true c41
                            clear c41
                            have H' := Aside0.mk H
                            clear H
                            go_wp2
                            go_meet
                            case rel => exact ⟨_, (true), (by first | rfl | (simp; done) | (simp [*]; done)), H', ⟨by have := HJ10.out; have := HJ25.out; first | omega | exact Nat.le_refl _⟩, ⟨by repeat (first | (with_reducible first | exact HB.out | apply below_alloc | apply pw_below_drewN | apply below_drew1) | exact HB.out)⟩⟩
                          · rw [if_neg c41] at H
                            have c41b0 : decide (648000 < t172) = false := decide_eq_false c41
                            clear c41
                            by_cases c42 : t174 = (wrap64 (2 * t172))
                            · rw [if_pos c42] at H
                              have c42b0 : (t174 == (wrap64 (2 * t172))) = true := beq_iff_eq.mpr c42
                              have c42b1 : (t174 != (wrap64 (2 * t172))) = false := bne_eq_false_iff_eq.mpr c42
                              clear c42
                              have H' := Aside0.mk H
                              clear H
                              go_wp2
                              go_meet
                              case rel => exact ⟨_, ((t183 != (decide ((wrap64 (3600 * t180)) < t172)))), (by first | rfl | (simp; done) | (simp [*]; done)), H', ⟨by have := HJ10.out; have := HJ25.out; first | omega | exact Nat.le_refl _⟩, ⟨by repeat (first | (with_reducible first | exact HB.out | apply below_alloc | apply pw_below_drewN | apply below_drew1) | exact HB.out)⟩⟩
                            · rw [if_neg c42] at H
                              have c42b0 : (t174 == (wrap64 (2 * t172))) = false := beq_eq_false_iff_ne.mpr c42
                              have c42b1 : (t174 != (wrap64 (2 * t172))) = true := bne_iff_ne.mpr c42
                              have H' := Aside0.mk H
                              clear H
                              go_wp2
                              go_meet
                              case rel => exact ⟨_, (true), (by first | rfl | (simp; done) | (simp [*]; done)), H', ⟨by have := HJ10.out; have := HJ25.out; first | omega | exact Nat.le_refl _⟩, ⟨by repeat (first | (with_reducible first | exact HB.out | apply below_alloc | apply pw_below_drewN | apply below_drew1) | exact HB.out)⟩⟩
                      case rest =>
                        clear HC39
                        try clear c1
                        try clear c2
                        try clear p2
                        try clear c3
                        try clear c4
                        try clear p6
                        try clear c8
                        try clear c16
                        try clear c18
                        try clear c18b0
                        try clear c18b1
                        try clear c19
                        try clear c19b0
                        try clear c19b1
                        try clear c20
                        try clear c20b0
                        try clear c20b1
                        try clear c22
                        try clear c25
                        try clear c26
                        try clear c27
                        try clear c28
                        try clear c29
                        try clear c29b0
                        try clear c29b1
                        try clear c30
                        try clear c30b0
                        try clear c31
                        try clear c31b0
                        try clear c31b1
                        try clear c32
                        try clear c33
                        try clear c33b0
                        try clear c33b1
                        try clear c34
                        try clear c34b0
                        try clear c35
                        try clear c35b0
                        try clear c35b1
                        try clear c36
                        try clear c36b0
                        try clear c36b1
                        try clear c37
                        try clear c37b0
                        try clear c37b1
                        try clear c38
                        try clear c38b0
                        try clear c38b1
                        try clear c40
                        try clear c40b0
                        try clear c41
                        try clear c41b0
                        try clear c42
                        try clear c42b0
                        try clear c42b1
                        try clear p2
                        try clear p6
                        obtain ⟨kq, x151_38, rfl, HA, HJ38, HB⟩ := hcut
                        cases kq with
                        | zero => exact absurd HA.out (by simp [laws_FnSettings.j2])
                        | succ kj38 =>
                          have H := HA.out
                          clear HA
                          simp only [laws_FnSettings.j2] at H
                          by_cases c43 : x151_38 = true
                          · subst c43
                            have H1 : (some false) = some r := by rw [if_pos rfl] at H; exact H
                            clear H
                            have H := H1
                            clear H1
                            obtain rfl := Option.some.inj H
                            go_wp2
                            go_ret
                            exact ⟨by first | rfl | (simp [errW_none, errW_some] <;> rfl) | (simp [*, errW_none, errW_some] <;> rfl), by repeat (first | (with_reducible first | exact HB.out | apply below_alloc | apply pw_below_drewN | apply below_drew1) | exact HB.out)⟩
                          · replace c43 := Bool.eq_false_iff.mpr c43
                            subst c43
                            have H1 : ((impl_IsUp.f kj38 t170 t171 (wrap64 (t172 - 1))).bind fun bt185 => ((impl_IsUp.f kj38 t170 t171 t172).bind fun bt187 => (if bt185.2 = 0 then (if bt185.1 = true then (if bt187.2 = 0 then (some (!bt187.1)) else (some false)) else (some false)) else (some false)))) = some r := by rw [if_neg (show ¬ (false = true) by decide)] at H; exact H
                            clear H
                            have H := H1
                            clear H1
                            replace H := Option.bind_eq_some_iff.mp H
                            obtain ⟨⟨t185, t186⟩, A440, H⟩ := H
                            replace H : ((impl_IsUp.f kj38 t170 t171 t172).bind fun bt187 => (if t186 = 0 then (if t185 = true then (if bt187.2 = 0 then (some (!bt187.1)) else (some false)) else (some false)) else (some false))) = some r := H
                            have A44 := Aside0.mk A440
                            clear A440
                            replace H := Option.bind_eq_some_iff.mp H
                            obtain ⟨⟨t187, t188⟩, A450, H⟩ := H
                            replace H : (if t186 = 0 then (if t185 = true then (if t188 = 0 then (some (!t187)) else (some false)) else (some false)) else (some false)) = some r := H
                            have A45 := Aside0.mk A450
                            clear A450
                            by_cases c46 : t186 = 0
                            · rw [if_pos c46] at H
                              have c46b0 : (t186 == 0) = true := beq_iff_eq.mpr c46
                              have c46b1 : (t186 != 0) = false := bne_eq_false_iff_eq.mpr c46
                              clear c46
                              by_cases c47 : t185 = true
                              · subst c47
                                have H1 : (if t188 = 0 then (some (!t187)) else (some false)) = some r := by rw [if_pos rfl] at H; exact H
                                clear H
                                have H := H1
                                clear H1
                                by_cases c48 : t188 = 0
                                · rw [if_pos c48] at H
                                  have c48b0 : (t188 == 0) = true := beq_iff_eq.mpr c48
                                  have c48b1 : (t188 != 0) = false := bne_eq_false_iff_eq.mpr c48
                                  clear c48
                                  obtain rfl := Option.some.inj H
                                  go_wp2_with (first | ((with_reducible refine gate_callee (f := 22) rfl ?_); refine goesL_ (some 157) rfl rfl Try.func22 (by kernel_rfl) rfl #[.int .i64 t170, .int .i64 t171, .int .i64 (wrap64 (t172 - 1))] rfl (by (try simp only [List.map_toArray, List.map_cons, List.map_nil]); first | done | rfl | (simp only [List.length_drop, List.length_take]; rfl)) ?_; (with_reducible refine (impl_IsUp.calls kj38 t170 t171 (wrap64 (t172 - 1)) true t186 _ A44.out).mono ?_); rintro e w49 ⟨rfl, hb⟩; refine ⟨_, rfl, ?_⟩; have n0_ := Aside0.mk (below_step (by repeat (first | (with_reducible first | exact HB.out | apply below_alloc | apply pw_below_drewN | apply below_drew1) | exact HB.out)) hb); clear HB; have HB := n0_; clear n0_; (try clear hb); (try clear hb2); (try clear hk); (try clear hi)) | ((with_reducible refine gate_callee (f := 22) rfl ?_); refine goesL_ (some 164) rfl rfl Try.func22 (by kernel_rfl) rfl #[.int .i64 t170, .int .i64 t171, .int .i64 t172] rfl (by (try simp only [List.map_toArray, List.map_cons, List.map_nil]); first | done | rfl | (simp only [List.length_drop, List.length_take]; rfl)) ?_; (with_reducible refine (impl_IsUp.calls kj38 t170 t171 t172 t187 t188 _ A45.out).mono ?_); rintro e w50 ⟨rfl, hb⟩; refine ⟨_, rfl, ?_⟩; have n0_ := Aside0.mk (below_step (by repeat (first | (with_reducible first | exact HB.out | apply below_alloc | apply pw_below_drewN | apply below_drew1) | exact HB.out)) hb); clear HB; have HB := n0_; clear n0_; (try clear hb); (try clear hb2); (try clear hk); (try clear hi)))
                                  go_ret
                                  exact ⟨by first | rfl | (simp [errW_none, errW_some] <;> rfl) | (simp [*, errW_none, errW_some] <;> rfl), by repeat (first | (with_reducible first | exact HB.out | apply below_alloc | apply pw_below_drewN | apply below_drew1) | exact HB.out)⟩
                                · rw [if_neg c48] at H
                                  have c48b0 : (t188 == 0) = false := beq_eq_false_iff_ne.mpr c48
                                  have c48b1 : (t188 != 0) = true := bne_iff_ne.mpr c48
                                  obtain rfl := Option.some.inj H
                                  go_wp2_with (first | ((with_reducible refine gate_callee (f := 22) rfl ?_); refine goesL_ (some 157) rfl rfl Try.func22 (by kernel_rfl) rfl #[.int .i64 t170, .int .i64 t171, .int .i64 (wrap64 (t172 - 1))] rfl (by (try simp only [List.map_toArray, List.map_cons, List.map_nil]); first | done | rfl | (simp only [List.length_drop, List.length_take]; rfl)) ?_; (with_reducible refine (impl_IsUp.calls kj38 t170 t171 (wrap64 (t172 - 1)) true t186 _ A44.out).mono ?_); rintro e w51 ⟨rfl, hb⟩; refine ⟨_, rfl, ?_⟩; have n0_ := Aside0.mk (below_step (by repeat (first | (with_reducible first | exact HB.out | apply below_alloc | apply pw_below_drewN | apply below_drew1) | exact HB.out)) hb); clear HB; have HB := n0_; clear n0_; (try clear hb); (try clear hb2); (try clear hk); (try clear hi)) | ((with_reducible refine gate_callee (f := 22) rfl ?_); refine goesL_ (some 164) rfl rfl Try.func22 (by kernel_rfl) rfl #[.int .i64 t170, .int .i64 t171, .int .i64 t172] rfl (by (try simp only [List.map_toArray, List.map_cons, List.map_nil]); first | done | rfl | (simp only [List.length_drop, List.length_take]; rfl)) ?_; (with_reducible refine (impl_IsUp.calls kj38 t170 t171 t172 t187 t188 _ A45.out).mono ?_); rintro e w52 ⟨rfl, hb⟩; refine ⟨_, rfl, ?_⟩; have n0_ := Aside0.mk (below_step (by repeat (first | (with_reducible first | exact HB.out | apply below_alloc | apply pw_below_drewN | apply below_drew1) | exact HB.out)) hb); clear HB; have HB := n0_; clear n0_; (try clear hb); (try clear hb2); (try clear hk); (try clear hi)))
                                  go_ret
                                  exact ⟨by first | rfl | (simp [errW_none, errW_some] <;> rfl) | (simp [*, errW_none, errW_some] <;> rfl), by repeat (first | (with_reducible first | exact HB.out | apply below_alloc | apply pw_below_drewN | apply below_drew1) | exact HB.out)⟩
                              · replace c47 := Bool.eq_false_iff.mpr c47
                                subst c47
                                have H1 : (some false) = some r := by rw [if_neg (show ¬ (false = true) by decide)] at H; exact H
                                clear H
                                have H := H1
                                clear H1
                                obtain rfl := Option.some.inj H
                                go_wp2_with (first | ((with_reducible refine gate_callee (f := 22) rfl ?_); refine goesL_ (some 157) rfl rfl Try.func22 (by kernel_rfl) rfl #[.int .i64 t170, .int .i64 t171, .int .i64 (wrap64 (t172 - 1))] rfl (by (try simp only [List.map_toArray, List.map_cons, List.map_nil]); first | done | rfl | (simp only [List.length_drop, List.length_take]; rfl)) ?_; (with_reducible refine (impl_IsUp.calls kj38 t170 t171 (wrap64 (t172 - 1)) false t186 _ A44.out).mono ?_); rintro e w53 ⟨rfl, hb⟩; refine ⟨_, rfl, ?_⟩; have n0_ := Aside0.mk (below_step (by repeat (first | (with_reducible first | exact HB.out | apply below_alloc | apply pw_below_drewN | apply below_drew1) | exact HB.out)) hb); clear HB; have HB := n0_; clear n0_; (try clear hb); (try clear hb2); (try clear hk); (try clear hi)) | ((with_reducible refine gate_callee (f := 22) rfl ?_); refine goesL_ (some 164) rfl rfl Try.func22 (by kernel_rfl) rfl #[.int .i64 t170, .int .i64 t171, .int .i64 t172] rfl (by (try simp only [List.map_toArray, List.map_cons, List.map_nil]); first | done | rfl | (simp only [List.length_drop, List.length_take]; rfl)) ?_; (with_reducible refine (impl_IsUp.calls kj38 t170 t171 t172 t187 t188 _ A45.out).mono ?_); rintro e w54 ⟨rfl, hb⟩; refine ⟨_, rfl, ?_⟩; have n0_ := Aside0.mk (below_step (by repeat (first | (with_reducible first | exact HB.out | apply below_alloc | apply pw_below_drewN | apply below_drew1) | exact HB.out)) hb); clear HB; have HB := n0_; clear n0_; (try clear hb); (try clear hb2); (try clear hk); (try clear hi)))
                                go_ret
                                exact ⟨by first | rfl | (simp [errW_none, errW_some] <;> rfl) | (simp [*, errW_none, errW_some] <;> rfl), by repeat (first | (with_reducible first | exact HB.out | apply below_alloc | apply pw_below_drewN | apply below_drew1) | exact HB.out)⟩
                            · rw [if_neg c46] at H
                              have c46b0 : (t186 == 0) = false := beq_eq_false_iff_ne.mpr c46
                              have c46b1 : (t186 != 0) = true := bne_iff_ne.mpr c46
                              obtain rfl := Option.some.inj H
                              go_wp2_with (first | ((with_reducible refine gate_callee (f := 22) rfl ?_); refine goesL_ (some 157) rfl rfl Try.func22 (by kernel_rfl) rfl #[.int .i64 t170, .int .i64 t171, .int .i64 (wrap64 (t172 - 1))] rfl (by (try simp only [List.map_toArray, List.map_cons, List.map_nil]); first | done | rfl | (simp only [List.length_drop, List.length_take]; rfl)) ?_; (with_reducible refine (impl_IsUp.calls kj38 t170 t171 (wrap64 (t172 - 1)) t185 t186 _ A44.out).mono ?_); rintro e w55 ⟨rfl, hb⟩; refine ⟨_, rfl, ?_⟩; have n0_ := Aside0.mk (below_step (by repeat (first | (with_reducible first | exact HB.out | apply below_alloc | apply pw_below_drewN | apply below_drew1) | exact HB.out)) hb); clear HB; have HB := n0_; clear n0_; (try clear hb); (try clear hb2); (try clear hk); (try clear hi)) | ((with_reducible refine gate_callee (f := 22) rfl ?_); refine goesL_ (some 164) rfl rfl Try.func22 (by kernel_rfl) rfl #[.int .i64 t170, .int .i64 t171, .int .i64 t172] rfl (by (try simp only [List.map_toArray, List.map_cons, List.map_nil]); first | done | rfl | (simp only [List.length_drop, List.length_take]; rfl)) ?_; (with_reducible refine (impl_IsUp.calls kj38 t170 t171 t172 t187 t188 _ A45.out).mono ?_); rintro e w56 ⟨rfl, hb⟩; refine ⟨_, rfl, ?_⟩; have n0_ := Aside0.mk (below_step (by repeat (first | (with_reducible first | exact HB.out | apply below_alloc | apply pw_below_drewN | apply below_drew1) | exact HB.out)) hb); clear HB; have HB := n0_; clear n0_; (try clear hb); (try clear hb2); (try clear hk); (try clear hi)))
                              go_ret
                              exact ⟨by first | rfl | (simp [errW_none, errW_some] <;> rfl) | (simp [*, errW_none, errW_some] <;> rfl), by repeat (first | (with_reducible first | exact HB.out | apply below_alloc | apply pw_below_drewN | apply below_drew1) | exact HB.out)⟩
                    · rw [if_neg c38] at H
                      have c38b0 : (t173 == 0) = false := beq_eq_false_iff_ne.mpr c38
                      have c38b1 : (t173 != 0) = true := bne_iff_ne.mpr c38
                      obtain rfl := Option.some.inj H
                      go_wp2
                      go_ret
                      exact ⟨by first | rfl | (simp [errW_none, errW_some] <;> rfl) | (simp [*, errW_none, errW_some] <;> rfl), by repeat (first | (with_reducible first | exact HB.out | apply below_alloc | apply pw_below_drewN | apply below_drew1) | exact HB.out)⟩

/-- THE ONE PURE STATEMENT of laws_FnSettings: yours. -/
def laws_FnSettings.Pure : Prop := ∀ (l0 : List Int) (l1 : List Int), l0.length ≤ maxLen → l0.length * 1 ≤ 140737488351232 → (∀ x ∈ l0, (Lit.int .u8 x).wf = true) → l1.length ≤ maxLen → l1.length * 1 ≤ 140737488351232 → (∀ x ∈ l1, (Lit.int .u8 x).wf = true) → ∃ k, laws_FnSettings.f k l0 l1 = some true
theorem laws_FnSettings.walk (P : laws_FnSettings.Pure) (a0 : Option Addr) (len0 cap0 : Nat) (z0 : List Int) (a1 : Option Addr) (len1 cap1 : Nat) (z1 : List Int) (w : World) (w0 : (a0 = none ∧ len0 = 0 ∧ cap0 = 0 ∧ z0 = []) ∨ ∃ x, a0 = some x ∧ len0 ≤ cap0 ∧ cap0 ≤ maxLen ∧ z0.length = cap0 ∧ (∀ i, i < z0.length → w.cell? (x.add i) = some (.int .u8 (z0.getD i 0))) ∧ ∀ n ∈ z0, (Lit.int .u8 n).wf = true) (y0 : len0 * 1 ≤ 140737488351232) (w1 : (a1 = none ∧ len1 = 0 ∧ cap1 = 0 ∧ z1 = []) ∨ ∃ x, a1 = some x ∧ len1 ≤ cap1 ∧ cap1 ≤ maxLen ∧ z1.length = cap1 ∧ (∀ i, i < z1.length → w.cell? (x.add i) = some (.int .u8 (z1.getD i 0))) ∧ ∀ n ∈ z1, (Lit.int .u8 n).wf = true) (y1 : len1 * 1 ≤ 140737488351232) :
    Calls Try.prog 8 #[.slice a0 len0 cap0, .slice a1 len1 cap1] w fun e w' => e = .returned (.bool true) ∧ Below w.heap.size w w' := by
  obtain ⟨l0, rfl, hr0, hm0, hw0, hc0⟩ := ReadsInt.ofRowC w0
  obtain ⟨l1, rfl, hr1, hm1, hw1, hc1⟩ := ReadsInt.ofRowC w1
  obtain ⟨k, h⟩ := P l0 l1 hm0 y0 hw0 hm1 y1 hw1
  refine (laws_FnSettings.calls k _ _ l0 _ _ l1 true w (Kd.C_of_reads (d := (0 : Int)) (h1 := fun _ => rfl) hr0) hc0 (Kd.C_of_reads (d := (0 : Int)) (h1 := fun _ => rfl) hr1) hc1 h).mono ?_
  rintro e w' ⟨rfl, hd⟩
  exact ⟨rfl, hd⟩

end Go.Proofs.Ytibbbeidbapfeaa.QFnSettings
