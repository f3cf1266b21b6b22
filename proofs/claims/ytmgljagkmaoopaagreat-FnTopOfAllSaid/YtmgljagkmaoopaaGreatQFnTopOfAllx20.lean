/- Walks of the Go functions that the law FnTopOfAll reaches: written by a program of this session. -/
import Derived.Test.YtmgljagkmaoopaaGreatQFnTopOfAllx0
import Derived.Test.YtmgljagkmaoopaaGreatQFnTopOfAllx5
import Derived.Test.YtmgljagkmaoopaaGreatQFnTopOfAllx7
import Derived.Test.YtmgljagkmaoopaaGreatQFnTopOfAllx10
import Derived.Test.YtmgljagkmaoopaaGreatQFnTopOfAllx11
import Derived.Test.YtmgljagkmaoopaaGreatQFnTopOfAllx14
import Derived.Test.YtmgljagkmaoopaaGreatQFnTopOfAllx15
import Derived.Test.YtmgljagkmaoopaaGreatQFnTopOfAllx16
import Derived.Test.YtmgljagkmaoopaaGreatQFnTopOfAllx18
import Derived.Test.YtmgljagkmaoopaaGreatQFnTopOfAllx19
namespace Go.Proofs.YtmgljagkmaoopaaGreat.QFnTopOfAll
open Go.RowKit Go.Proofs.YtmgljagkmaoopaaGreatW.PrintWords Go.Proofs.YtmgljagkmaoopaaGreatW.PrintLast Go.Proofs.YtmgljagkmaoopaaGreatW.PrintMore
attribute [local go_sem] max2_int min2_int max_two min_two max_three min_three max_four min_four
open Go.Proofs.YtmgljagkmaoopaaGreatW.PrintWords renaming below_alloc → ae, below_drew1 → ac, below_size → al, below_step → af, pw_below_drewN → ab
open Go.Proofs.YtmgljagkmaoopaaGreatW.PrintWords.Aside0 renaming mk → aa
open Go.Proofs.YtmgljagkmaoopaaGreatW.PrintWords.Kd renaming C_alloc → ar, C_below → ay, C_drew → av, C_drewN → au, R_alloc → ah, R_below → be, R_drew → ai, R_drewN → ag, R_lower → bd, R_mono → bc, R_reads' → aw, at_int → ax
open Option renaming bind_eq_some_iff → bf
open List renaming length_drop → b0, length_take → b2, map_cons → b4, map_nil → b5, map_toArray → b3, setIfInBounds_toArray → a7, set_cons_succ → a9, set_cons_zero → a8
set_option linter.unusedVariables false
set_option linter.unusedSimpArgs false
mutual
def laws_FnTopOfAll.j0 : Nat → List (S71) → Int → Int → List (S82) → Int → Int → Int → Bool → Option (Bool)
 | 0, _, _, _, _, _, _, _, _ => none
 | k + 1, x0, x1, x2, x3, x4, x5, x6, x59 => if x59 = true then (some true) else ((spec_FewestPoints.f k x0 x1).bind fun bt390 => ((impl_FewestPoints.f k x0 x1).bind fun bt394 => ((impl_LongSteps.f k x0 x1).bind fun bt398 => (if bt394.2 = bt390.2 then (if bt398.2 = bt390.2 then (if bt390.2 = 0 then ((laws_a2Same.f k bt394.1 bt390.1).bind fun t402 => (if t402 = true then ((laws_a2Stand.f k x0 bt394.1 x1).bind fun t403 => (if t403 = true then ((laws_a2Stand.f k x0 bt398.1 x1).bind fun t404 => (if t404 = true then (laws_FnTopOfAll.j1 k x2 x3 x4 x5 x6 (decide ((bt394.1.length : Int) > (bt398.1.length : Int)))) else (laws_FnTopOfAll.j1 k x2 x3 x4 x5 x6 true))) else (laws_FnTopOfAll.j1 k x2 x3 x4 x5 x6 true))) else (laws_FnTopOfAll.j1 k x2 x3 x4 x5 x6 true))) else (laws_FnTopOfAll.j1 k x2 x3 x4 x5 x6 false)) else (laws_FnTopOfAll.j1 k x2 x3 x4 x5 x6 true)) else (laws_FnTopOfAll.j1 k x2 x3 x4 x5 x6 true)))))
def laws_FnTopOfAll.j1 : Nat → Int → List (S82) → Int → Int → Int → Bool → Option (Bool)
 | 0, _, _, _, _, _, _ => none
 | k + 1, x2, x3, x4, x5, x6, x116 => if x116 = true then (none) else ((spec_FewestColours.f k x2 x3).bind fun bt405 => ((impl_FewestColours.f k x2 x3).bind fun bt407 => ((impl_FirstColours.f k x2 x3 bt407.1).bind fun bt409 => (if bt407.2 = bt405.2 then (if bt405.2 = 0 then (laws_FnTopOfAll.j2 k x2 x3 x4 x5 x6 bt405.2 bt407.1 bt409.1 bt409.2 (bt407.1 != bt405.1)) else (laws_FnTopOfAll.j2 k x2 x3 x4 x5 x6 bt405.2 bt407.1 bt409.1 bt409.2 false)) else (laws_FnTopOfAll.j2 k x2 x3 x4 x5 x6 bt405.2 bt407.1 bt409.1 bt409.2 true)))))
def laws_FnTopOfAll.j2 : Nat → Int → List (S82) → Int → Int → Int → Int → Int → List Int → Int → Bool → Option (Bool)
 | 0, _, _, _, _, _, _, _, _, _, _ => none
 | k + 1, x2, x3, x4, x5, x6, x22, x23, x25, x26, x147 => if x147 = true then (none) else (if x22 = 0 then (laws_FnTopOfAll.j3 k x2 x3 x4 x5 x6 x22 x23 x25 x26 (decide (x23 ≤ 6))) else (laws_FnTopOfAll.j3 k x2 x3 x4 x5 x6 x22 x23 x25 x26 false))
def laws_FnTopOfAll.j3 : Nat → Int → List (S82) → Int → Int → Int → Int → Int → List Int → Int → Bool → Option (Bool)
 | 0, _, _, _, _, _, _, _, _, _, _ => none
 | k + 1, x2, x3, x4, x5, x6, x22, x23, x25, x26, x27 => if x22 = 0 then (if x27 = true then (laws_FnTopOfAll.j4 k x2 x3 x4 x5 x6 x23 x25 x26 x27 false) else (if x26 = 2 then (laws_FnTopOfAll.j4 k x2 x3 x4 x5 x6 x23 x25 x26 x27 ((x25.length : Int) != 0)) else (laws_FnTopOfAll.j4 k x2 x3 x4 x5 x6 x23 x25 x26 x27 true))) else (laws_FnTopOfAll.j4 k x2 x3 x4 x5 x6 x23 x25 x26 x27 false)
def laws_FnTopOfAll.j4 : Nat → Int → List (S82) → Int → Int → Int → Int → List Int → Int → Bool → Bool → Option (Bool)
 | 0, _, _, _, _, _, _, _, _, _, _ => none
 | k + 1, x2, x3, x4, x5, x6, x23, x25, x26, x27, x168 => if x168 = true then (none) else (if x27 = true then ((impl_FirstClash.f k x2 x3 x25).bind fun bt413 => ((spec_FirstClash.f k x2 x3 x25).bind fun bt415 => ((spec_FirstColours.f k x2 x3 x23).bind fun bt417 => (if x23 < 1 then (none) else (if x23 > x2 then (none) else (if x26 = 0 then (if bt413.2 = 0 then (if bt413.1 = (-1) then (if bt415.1 = (-1) then ((laws_a2Same.f k x25 bt417.1).bind fun t421 => (if t421 = true then (laws_FnTopOfAll.j5 k x2 x3 x4 x5 x6 x23 x25 x27) else (none))) else (none)) else (none)) else (none)) else (none))))))) else (laws_FnTopOfAll.j5 k x2 x3 x4 x5 x6 x23 x25 x27))
def laws_FnTopOfAll.j5 : Nat → Int → List (S82) → Int → Int → Int → Int → List Int → Bool → Option (Bool)
 | 0, _, _, _, _, _, _, _, _ => none
 | k + 1, x2, x3, x4, x5, x6, x23, x25, x27 => laws_FnTopOfAll.l0 k x2 x3 x4 x5 x6 x23 x25 x27 0
def laws_FnTopOfAll.l0 : Nat → Int → List (S82) → Int → Int → Int → Int → List Int → Bool → Int → Option (Bool)
 | 0, _, _, _, _, _, _, _, _, _ => none
 | k + 1, x2, x3, x4, x5, x6, x23, x25, x27, x34 => if x27 = true then (laws_FnTopOfAll.j7 k x2 x3 x4 x5 x6 x23 x25 x27 x34 (decide (x34 < (x25.length : Int)))) else (laws_FnTopOfAll.j7 k x2 x3 x4 x5 x6 x23 x25 x27 x34 false)
def laws_FnTopOfAll.j7 : Nat → Int → List (S82) → Int → Int → Int → Int → List Int → Bool → Int → Bool → Option (Bool)
 | 0, _, _, _, _, _, _, _, _, _, _ => none
 | k + 1, x2, x3, x4, x5, x6, x23, x25, x27, x34, x226 => if x226 = true then (if 0 ≤ x34 then (if x34 < (x25.length : Int) then (if (rd x25 x34) < 0 then (none) else (if (rd x25 x34) ≥ x23 then (none) else (laws_FnTopOfAll.l0 k x2 x3 x4 x5 x6 x23 x25 x27 (wrap64 (x34 + 1))))) else (none)) else (none)) else (if x27 = true then (laws_FnTopOfAll.j8 k x2 x3 x4 x5 x6 x23 (decide (x23 > 1))) else (laws_FnTopOfAll.j8 k x2 x3 x4 x5 x6 x23 false))
def laws_FnTopOfAll.j8 : Nat → Int → List (S82) → Int → Int → Int → Int → Bool → Option (Bool)
 | 0, _, _, _, _, _, _, _ => none
 | k + 1, x2, x3, x4, x5, x6, x23, x246 => if x246 = true then ((spec_CountColours.f k x2 x3 (wrap64 (x23 - 1))).bind fun bt424 => (if bt424.2 = 0 then (if bt424.1 = 0 then (laws_FnTopOfAll.j9 k x4 x5 x6) else (none)) else (none))) else (laws_FnTopOfAll.j9 k x4 x5 x6)
def laws_FnTopOfAll.j9 : Nat → Int → Int → Int → Option (Bool)
 | 0, _, _, _ => none
 | k + 1, x4, x5, x6 => (spec_IsUp.f k x4 x5 0).bind fun bt426 => ((spec_SettingByTurning.f k x4 x5 x6).bind fun bt428 => (if bt426.2 = 0 then (laws_FnTopOfAll.j10 k x4 x5 x6 (bt428.2 == 2)) else (laws_FnTopOfAll.j10 k x4 x5 x6 true)))
def laws_FnTopOfAll.j10 : Nat → Int → Int → Int → Bool → Option (Bool)
 | 0, _, _, _, _ => none
 | k + 1, x4, x5, x6, x279 => if x279 = true then (some true) else ((impl_SettingHour.f k x4 x5).bind fun bt430 => ((impl_SettingByTurning.f k x4 x5 x6).bind fun bt432 => (if bt430.2 = bt432.2 then (if bt430.2 = 0 then ((spec_SettingHour.f k x4 x5).bind fun bt436 => ((spec_SettingByTurning.f k x4 x5 x6).bind fun bt438 => (if bt430.1 = bt436.1 then (if bt432.1 = bt438.1 then (if x6 = 0 then (none) else (if bt430.1 ≥ 1 then (if bt430.1 ≤ 648000 then (if bt432.1 ≥ bt430.1 then (if (wrap64 (bt432.1 - bt430.1)) < (wrap64 (Int.tdiv (1296000 : Int) x6)) then (if (wrap64 (Int.tdiv (1296000 : Int) x6)) = 0 then (none) else (some ((Int.tmod bt432.1 (wrap64 (Int.tdiv (1296000 : Int) x6))) == 0))) else (none)) else (none)) else (none)) else (none))) else (none)) else (none)))) else ((spec_IsUp.f k x4 x5 0).bind fun bt434 => (if bt434.2 = 0 then (if (bt434.1 == (bt430.2 == 3)) = true then (if bt434.1 = true then (some true) else (some (bt430.2 == 6))) else (none)) else (none)))) else (none))))
end
def laws_FnTopOfAll.f (k : Nat) (l0 : List (S71)) (a1 : Int) (a2 : Int) (l3 : List (S82)) (a4 : Int) (a5 : Int) (a6 : Int) : Option (Bool) := if (l0.length : Int) > 10000 then (laws_FnTopOfAll.j0 k l0 a1 a2 l3 a4 a5 a6 true) else (laws_FnTopOfAll.j0 k l0 a1 a2 l3 a4 a5 a6 (decide ((l3.length : Int) > 10000)))
theorem laws_FnTopOfAll.j1_no {k : Nat} {y0 y1 y2 y3 y4} {r : Bool} (h : laws_FnTopOfAll.j1 k y0 y1 y2 y3 y4 true = some r) : False := by
 cases k with
 | zero => simp [laws_FnTopOfAll.j1] at h
 | succ k => simp [laws_FnTopOfAll.j1] at h
theorem laws_FnTopOfAll.j2_no {k : Nat} {y0 y1 y2 y3 y4 y5 y6 y7 y8} {r : Bool} (h : laws_FnTopOfAll.j2 k y0 y1 y2 y3 y4 y5 y6 y7 y8 true = some r) : False := by
 cases k with
 | zero => simp [laws_FnTopOfAll.j2] at h
 | succ k => simp [laws_FnTopOfAll.j2] at h
theorem laws_FnTopOfAll.j4_no {k : Nat} {y0 y1 y2 y3 y4 y5 y6 y7 y8} {r : Bool} (h : laws_FnTopOfAll.j4 k y0 y1 y2 y3 y4 y5 y6 y7 y8 true = some r) : False := by
 cases k with
 | zero => simp [laws_FnTopOfAll.j4] at h
 | succ k => simp [laws_FnTopOfAll.j4] at h
theorem laws_FnTopOfAll.mono_l : ∀ k, (∀ y0 y1 y2 y3 y4 y5 y6 y7, LeO (laws_FnTopOfAll.j0 k y0 y1 y2 y3 y4 y5 y6 y7) (laws_FnTopOfAll.j0 (k + 1) y0 y1 y2 y3 y4 y5 y6 y7)) ∧ (∀ y0 y1 y2 y3 y4 y5, LeO (laws_FnTopOfAll.j1 k y0 y1 y2 y3 y4 y5) (laws_FnTopOfAll.j1 (k + 1) y0 y1 y2 y3 y4 y5)) ∧ (∀ y0 y1 y2 y3 y4 y5 y6 y7 y8 y9, LeO (laws_FnTopOfAll.j2 k y0 y1 y2 y3 y4 y5 y6 y7 y8 y9) (laws_FnTopOfAll.j2 (k + 1) y0 y1 y2 y3 y4 y5 y6 y7 y8 y9)) ∧ (∀ y0 y1 y2 y3 y4 y5 y6 y7 y8 y9, LeO (laws_FnTopOfAll.j3 k y0 y1 y2 y3 y4 y5 y6 y7 y8 y9) (laws_FnTopOfAll.j3 (k + 1) y0 y1 y2 y3 y4 y5 y6 y7 y8 y9)) ∧ (∀ y0 y1 y2 y3 y4 y5 y6 y7 y8 y9, LeO (laws_FnTopOfAll.j4 k y0 y1 y2 y3 y4 y5 y6 y7 y8 y9) (laws_FnTopOfAll.j4 (k + 1) y0 y1 y2 y3 y4 y5 y6 y7 y8 y9)) ∧ (∀ y0 y1 y2 y3 y4 y5 y6 y7, LeO (laws_FnTopOfAll.j5 k y0 y1 y2 y3 y4 y5 y6 y7) (laws_FnTopOfAll.j5 (k + 1) y0 y1 y2 y3 y4 y5 y6 y7)) ∧ (∀ y0 y1 y2 y3 y4 y5 y6 y7 y8, LeO (laws_FnTopOfAll.l0 k y0 y1 y2 y3 y4 y5 y6 y7 y8) (laws_FnTopOfAll.l0 (k + 1) y0 y1 y2 y3 y4 y5 y6 y7 y8)) ∧ (∀ y0 y1 y2 y3 y4 y5 y6 y7 y8 y9, LeO (laws_FnTopOfAll.j7 k y0 y1 y2 y3 y4 y5 y6 y7 y8 y9) (laws_FnTopOfAll.j7 (k + 1) y0 y1 y2 y3 y4 y5 y6 y7 y8 y9)) ∧ (∀ y0 y1 y2 y3 y4 y5 y6, LeO (laws_FnTopOfAll.j8 k y0 y1 y2 y3 y4 y5 y6) (laws_FnTopOfAll.j8 (k + 1) y0 y1 y2 y3 y4 y5 y6)) ∧ (∀ y0 y1 y2, LeO (laws_FnTopOfAll.j9 k y0 y1 y2) (laws_FnTopOfAll.j9 (k + 1) y0 y1 y2)) ∧ (∀ y0 y1 y2 y3, LeO (laws_FnTopOfAll.j10 k y0 y1 y2 y3) (laws_FnTopOfAll.j10 (k + 1) y0 y1 y2 y3))
 | 0 => ⟨fun _ _ _ _ _ _ _ _ r h => by simp [laws_FnTopOfAll.j0] at h, fun _ _ _ _ _ _ r h => by simp [laws_FnTopOfAll.j1] at h, fun _ _ _ _ _ _ _ _ _ _ r h => by simp [laws_FnTopOfAll.j2] at h, fun _ _ _ _ _ _ _ _ _ _ r h => by simp [laws_FnTopOfAll.j3] at h, fun _ _ _ _ _ _ _ _ _ _ r h => by simp [laws_FnTopOfAll.j4] at h, fun _ _ _ _ _ _ _ _ r h => by simp [laws_FnTopOfAll.j5] at h, fun _ _ _ _ _ _ _ _ _ r h => by simp [laws_FnTopOfAll.l0] at h, fun _ _ _ _ _ _ _ _ _ _ r h => by simp [laws_FnTopOfAll.j7] at h, fun _ _ _ _ _ _ _ r h => by simp [laws_FnTopOfAll.j8] at h, fun _ _ _ r h => by simp [laws_FnTopOfAll.j9] at h, fun _ _ _ _ r h => by simp [laws_FnTopOfAll.j10] at h⟩
 | k + 1 => by
  obtain ⟨ih0, ih1, ih2, ih3, ih4, ih5, ih6, ih7, ih8, ih9, ih10⟩ := laws_FnTopOfAll.mono_l k; refine ⟨?_, ?_, ?_, ?_, ?_, ?_, ?_, ?_, ?_, ?_, ?_⟩; (all_goals intros); (all_goals first | unfold laws_FnTopOfAll.j0 | unfold laws_FnTopOfAll.j1 | unfold laws_FnTopOfAll.j2 | unfold laws_FnTopOfAll.j3 | unfold laws_FnTopOfAll.j4 | unfold laws_FnTopOfAll.j5 | unfold laws_FnTopOfAll.l0 | unfold laws_FnTopOfAll.j7 | unfold laws_FnTopOfAll.j8 | unfold laws_FnTopOfAll.j9 | unfold laws_FnTopOfAll.j10)
  all_goals repeat' first
   | (with_reducible exact ih0 _ _ _ _ _ _ _ _)
   | (with_reducible exact ih1 _ _ _ _ _ _)
   | (with_reducible exact ih2 _ _ _ _ _ _ _ _ _ _)
   | (with_reducible exact ih3 _ _ _ _ _ _ _ _ _ _)
   | (with_reducible exact ih4 _ _ _ _ _ _ _ _ _ _)
   | (with_reducible exact ih5 _ _ _ _ _ _ _ _)
   | (with_reducible exact ih6 _ _ _ _ _ _ _ _ _)
   | (with_reducible exact ih7 _ _ _ _ _ _ _ _ _ _)
   | (with_reducible exact ih8 _ _ _ _ _ _ _)
   | (with_reducible exact ih9 _ _ _)
   | (with_reducible exact ih10 _ _ _ _)
   | (with_reducible exact impl_FewestColours.mono _ _ _)
   | (with_reducible exact impl_FewestPoints.mono _ _ _)
   | (with_reducible exact impl_FirstClash.mono _ _ _ _)
   | (with_reducible exact impl_FirstColours.mono _ _ _ _)
   | (with_reducible exact impl_LongSteps.mono _ _ _)
   | (with_reducible exact impl_SettingByTurning.mono _ _ _ _)
   | (with_reducible exact impl_SettingHour.mono _ _ _)
   | (with_reducible exact laws_a2Same.mono _ _ _)
   | (with_reducible exact laws_a2Stand.mono _ _ _ _)
   | (with_reducible exact spec_CountColours.mono _ _ _ _)
   | (with_reducible exact spec_FewestColours.mono _ _ _)
   | (with_reducible exact spec_FewestPoints.mono _ _ _)
   | (with_reducible exact spec_FirstClash.mono _ _ _ _)
   | (with_reducible exact spec_FirstColours.mono _ _ _ _)
   | (with_reducible exact spec_IsUp.mono _ _ _ _)
   | (with_reducible exact spec_SettingByTurning.mono _ _ _ _)
   | (with_reducible exact spec_SettingHour.mono _ _ _)
   | (with_reducible exact LeO.refl _)
   | (with_reducible exact LeO.none _)
   | (with_reducible refine LeO.ite ?_ ?_)
   | (with_reducible refine LeO.bind ?_ (fun _ => ?_))
   | exact ih0 _ _ _ _ _ _ _ _
   | exact ih1 _ _ _ _ _ _
   | exact ih2 _ _ _ _ _ _ _ _ _ _
   | exact ih3 _ _ _ _ _ _ _ _ _ _
   | exact ih4 _ _ _ _ _ _ _ _ _ _
   | exact ih5 _ _ _ _ _ _ _ _
   | exact ih6 _ _ _ _ _ _ _ _ _
   | exact ih7 _ _ _ _ _ _ _ _ _ _
   | exact ih8 _ _ _ _ _ _ _
   | exact ih9 _ _ _
   | exact ih10 _ _ _ _
   | exact impl_FewestColours.mono _ _ _
   | exact impl_FewestPoints.mono _ _ _
   | exact impl_FirstClash.mono _ _ _ _
   | exact impl_FirstColours.mono _ _ _ _
   | exact impl_LongSteps.mono _ _ _
   | exact impl_SettingByTurning.mono _ _ _ _
   | exact impl_SettingHour.mono _ _ _
   | exact laws_a2Same.mono _ _ _
   | exact laws_a2Stand.mono _ _ _ _
   | exact spec_CountColours.mono _ _ _ _
   | exact spec_FewestColours.mono _ _ _
   | exact spec_FewestPoints.mono _ _ _
   | exact spec_FirstClash.mono _ _ _ _
   | exact spec_FirstColours.mono _ _ _ _
   | exact spec_IsUp.mono _ _ _ _
   | exact spec_SettingByTurning.mono _ _ _ _
   | exact spec_SettingHour.mono _ _ _
   | exact LeO.none _
   | refine LeO.ite ?_ ?_
   | refine LeO.bind ?_ (fun _ => ?_)
theorem laws_FnTopOfAll.mono : ∀ a0 a1 a2 a3 a4 a5 a6 k, LeO (laws_FnTopOfAll.f k a0 a1 a2 a3 a4 a5 a6) (laws_FnTopOfAll.f (k + 1) a0 a1 a2 a3 a4 a5 a6) := by
 intro a0 a1 a2 a3 a4 a5 a6 k; obtain ⟨ih0, ih1, ih2, ih3, ih4, ih5, ih6, ih7, ih8, ih9, ih10⟩ := laws_FnTopOfAll.mono_l k; unfold laws_FnTopOfAll.f
 repeat' first
   | (with_reducible exact ih0 _ _ _ _ _ _ _ _)
   | (with_reducible exact ih1 _ _ _ _ _ _)
   | (with_reducible exact ih2 _ _ _ _ _ _ _ _ _ _)
   | (with_reducible exact ih3 _ _ _ _ _ _ _ _ _ _)
   | (with_reducible exact ih4 _ _ _ _ _ _ _ _ _ _)
   | (with_reducible exact ih5 _ _ _ _ _ _ _ _)
   | (with_reducible exact ih6 _ _ _ _ _ _ _ _ _)
   | (with_reducible exact ih7 _ _ _ _ _ _ _ _ _ _)
   | (with_reducible exact ih8 _ _ _ _ _ _ _)
   | (with_reducible exact ih9 _ _ _)
   | (with_reducible exact ih10 _ _ _ _)
   | (with_reducible exact impl_FewestColours.mono _ _ _)
   | (with_reducible exact impl_FewestPoints.mono _ _ _)
   | (with_reducible exact impl_FirstClash.mono _ _ _ _)
   | (with_reducible exact impl_FirstColours.mono _ _ _ _)
   | (with_reducible exact impl_LongSteps.mono _ _ _)
   | (with_reducible exact impl_SettingByTurning.mono _ _ _ _)
   | (with_reducible exact impl_SettingHour.mono _ _ _)
   | (with_reducible exact laws_a2Same.mono _ _ _)
   | (with_reducible exact laws_a2Stand.mono _ _ _ _)
   | (with_reducible exact spec_CountColours.mono _ _ _ _)
   | (with_reducible exact spec_FewestColours.mono _ _ _)
   | (with_reducible exact spec_FewestPoints.mono _ _ _)
   | (with_reducible exact spec_FirstClash.mono _ _ _ _)
   | (with_reducible exact spec_FirstColours.mono _ _ _ _)
   | (with_reducible exact spec_IsUp.mono _ _ _ _)
   | (with_reducible exact spec_SettingByTurning.mono _ _ _ _)
   | (with_reducible exact spec_SettingHour.mono _ _ _)
   | (with_reducible exact LeO.refl _)
   | (with_reducible exact LeO.none _)
   | (with_reducible refine LeO.ite ?_ ?_)
   | (with_reducible refine LeO.bind ?_ (fun _ => ?_))
   | exact ih0 _ _ _ _ _ _ _ _
   | exact ih1 _ _ _ _ _ _
   | exact ih2 _ _ _ _ _ _ _ _ _ _
   | exact ih3 _ _ _ _ _ _ _ _ _ _
   | exact ih4 _ _ _ _ _ _ _ _ _ _
   | exact ih5 _ _ _ _ _ _ _ _
   | exact ih6 _ _ _ _ _ _ _ _ _
   | exact ih7 _ _ _ _ _ _ _ _ _ _
   | exact ih8 _ _ _ _ _ _ _
   | exact ih9 _ _ _
   | exact ih10 _ _ _ _
   | exact impl_FewestColours.mono _ _ _
   | exact impl_FewestPoints.mono _ _ _
   | exact impl_FirstClash.mono _ _ _ _
   | exact impl_FirstColours.mono _ _ _ _
   | exact impl_LongSteps.mono _ _ _
   | exact impl_SettingByTurning.mono _ _ _ _
   | exact impl_SettingHour.mono _ _ _
   | exact laws_a2Same.mono _ _ _
   | exact laws_a2Stand.mono _ _ _ _
   | exact spec_CountColours.mono _ _ _ _
   | exact spec_FewestColours.mono _ _ _
   | exact spec_FewestPoints.mono _ _ _
   | exact spec_FirstClash.mono _ _ _ _
   | exact spec_FirstColours.mono _ _ _ _
   | exact spec_IsUp.mono _ _ _ _
   | exact spec_SettingByTurning.mono _ _ _ _
   | exact spec_SettingHour.mono _ _ _
   | exact LeO.none _
   | refine LeO.ite ?_ ?_
   | refine LeO.bind ?_ (fun _ => ?_)
set_option maxHeartbeats 64000000 in
set_option maxRecDepth 100000 in
theorem laws_FnTopOfAll.calls (k : Nat) (A0 : Option Addr) (c0 : Nat) (l0 : List (S71)) (a1 : Int) (a2 : Int) (A3 : Option Addr) (c3 : Nat) (l3 : List (S82)) (a4 : Int) (a5 : Int) (a6 : Int) (r : Bool) (w : World) (hr0 : Kd.C k71 w A0 l0.length l0) (hc0 : l0.length ≤ c0) (hr3 : Kd.C k82 w A3 l3.length l3) (hc3 : l3.length ≤ c3) (h : laws_FnTopOfAll.f k l0 a1 a2 l3 a4 a5 a6 = some r) :
  Calls Tryz.prog 4 #[.slice A0 l0.length c0, .int .i64 a1, .int .i64 a2, .slice A3 l3.length c3, .int .i64 a4, .int .i64 a5, .int .i64 a6] w fun e w' => e = .returned (.bool r) ∧ Below w.heap.size w w' := by
 have HR0 := aa hr0; have HC0 := aa hc0; clear hr0 hc0; have HR3 := aa hr3; have HC3 := aa hc3; clear hr3 hc3; have HB := aa (Below.refl w.heap.size w); have H : (if (l0.length : Int) > 10000 then (laws_FnTopOfAll.j0 k l0 a1 a2 l3 a4 a5 a6 true) else (laws_FnTopOfAll.j0 k l0 a1 a2 l3 a4 a5 a6 (decide ((l3.length : Int) > 10000)))) = some r := h; clear h; have HC8 := aa H; clear H; go_enter Tryz.func4, Tryz.ntmps4
 go_upto_region 1 with (fail)
 go_cut [59] (fun v59 wc => ∃ (kq : Nat) (x59_7 : Bool), v59 = .bool x59_7 ∧ Aside0 (laws_FnTopOfAll.j0 kq l0 a1 a2 l3 a4 a5 a6 x59_7 = some r) ∧ Aside0 (kq ≤ k) ∧ Aside0 (Below w.heap.size w wc))
 case first => as_aux_lemma =>
  have H := HC8.out; clear HC8; by_cases c9 : (l0.length : Int) > 10000
  ·rw [if_pos c9] at H; have c9b0 : decide (10000 < (l0.length : Int)) = true := decide_eq_true c9; have c9b1 : decide (10000 < l0.length) = true := decide_eq_true (by omega); clear c9; (first | rw [c9b0] | (simp only [i64_w, i32_w]; rw [c9b0]) | skip); have H' := aa H; clear H; go_wp2
   go_meet
   case rel => exact ⟨_, (true), (by first | rfl | (simp; done) | (simp [*]; done)), H', ⟨by first | omega | exact Nat.le_refl _⟩, ⟨by repeat (first | (with_reducible first | exact HB.out | apply ae | apply ab | apply ac) | exact HB.out)⟩⟩
  ·rw [if_neg c9] at H; have c9b0 : decide (10000 < (l0.length : Int)) = false := decide_eq_false c9; have c9b1 : decide (10000 < l0.length) = false := decide_eq_false (by omega); clear c9; (first | rw [c9b0] | (simp only [i64_w, i32_w]; rw [c9b0]) | skip); have H' := aa H; clear H; go_wp2
   go_meet
   case rel => exact ⟨_, (decide ((l3.length : Int) > 10000)), (by first | rfl | (simp; done) | (simp [*]; done)), H', ⟨by first | omega | exact Nat.le_refl _⟩, ⟨by repeat (first | (with_reducible first | exact HB.out | apply ae | apply ab | apply ac) | exact HB.out)⟩⟩
 case rest => as_aux_lemma =>
  clear HC8; (try clear p2); (try clear c3); (try clear c4); (try clear c9); (try clear c9b0); (try clear c9b1); obtain ⟨kq, x59_7, rfl, HA, HJ7, HB⟩ := hcut
  cases kq with
  | zero => exact absurd HA.out (by simp [laws_FnTopOfAll.j0])
  | succ kj7 =>
   have H := HA.out; clear HA; simp only [laws_FnTopOfAll.j0] at H; by_cases c10 : x59_7 = true
   ·subst c10; (have H1 : (some true) = some r := by rw [if_pos rfl] at H; exact H); clear H; have H := H1; clear H1; obtain rfl := Option.some.inj H; go_wp2; go_ret; exact ⟨by first | rfl | (simp [errW_none, errW_some] <;> rfl) | (simp [*, errW_none, errW_some] <;> rfl), by repeat (first | (with_reducible first | exact HB.out | apply ae | apply ab | apply ac) | exact HB.out)⟩
   ·replace c10 := Bool.eq_false_iff.mpr c10; subst c10; have H1 := H; rw [if_neg (show ¬ (false = true) by decide)] at H1; clear H; have H := H1; clear H1; replace H := bf.mp H; obtain ⟨⟨t390, t391⟩, A110, H⟩ := H; (try dsimp only at H); have A11 := aa A110; clear A110; replace H := bf.mp H; obtain ⟨⟨t394, t395⟩, A120, H⟩ := H; (try dsimp only at H); have A12 := aa A120; clear A120; replace H := bf.mp H; obtain ⟨⟨t398, t399⟩, A130, H⟩ := H; (try dsimp only at H); have A13 := aa A130; clear A130; have HC14 := aa H; clear H
    go_upto_region 6 with (first | ((with_reducible refine gate_callee (f := 23) rfl ?_); refine goesL_ (some 63) rfl rfl Tryz.func23 (by kernel_rfl) rfl #[.slice A0 l0.length c0, .int .i64 a1] rfl (by (try simp only [b3, b4, b5]); first | done | rfl | (simp only [b0, b2]; rfl)) ?_; (with_reducible refine (spec_FewestPoints.calls kj7 _ _ l0 a1 t390 t391 _ ?side1 ?side2 A11.out).mono ?_); (case side1 => repeat (first | exact (ay HR0.out HB.out) | (with_reducible refine ar ?_ _) | (with_reducible refine au ?_ _) | (with_reducible refine av ?_))); (case side2 => exact HC0.out); rintro e w15 ⟨v392, rfl, ho0, hb⟩; refine ⟨_, rfl, ?_⟩; have n0_ := aa (bd ho0 (al (by repeat (first | (with_reducible first | exact HB.out | apply ae | apply ab | apply ac) | exact HB.out)))); have n1_ := aa (af (by repeat (first | (with_reducible first | exact HB.out | apply ae | apply ab | apply ac) | exact HB.out)) hb); clear HB; have HO393 := n0_; have HB := n1_; clear n0_ n1_; (try clear hb); (try clear hb2); (try clear hk); (try clear hi); (try clear ho0)) | ((with_reducible refine gate_callee (f := 8) rfl ?_); refine goesL_ (some 69) rfl rfl Tryz.func8 (by kernel_rfl) rfl #[.slice A0 l0.length c0, .int .i64 a1] rfl (by (try simp only [b3, b4, b5]); first | done | rfl | (simp only [b0, b2]; rfl)) ?_; (with_reducible refine (impl_FewestPoints.calls kj7 _ _ l0 a1 t394 t395 _ ?side1 ?side2 A12.out).mono ?_); (case side1 => repeat (first | exact (ay HR0.out HB.out) | (with_reducible refine ar ?_ _) | (with_reducible refine au ?_ _) | (with_reducible refine av ?_))); (case side2 => exact HC0.out); rintro e w16 ⟨v396, rfl, ho0, hb⟩; refine ⟨_, rfl, ?_⟩; have n0_ := aa (Kd.R_elder' (by (with_reducible repeat (first | apply ah | apply ag | apply ai)); exact HO393.out) (Kd.R_base ho0) hb); have n1_ := aa (bd (Kd.R_new' ho0 (Kd.R_lt (by (with_reducible repeat (first | apply ah | apply ag | apply ai)); exact HO393.out))) (al (by repeat (first | (with_reducible first | exact HB.out | apply ae | apply ab | apply ac) | exact HB.out)))); have n2_ := aa (af (by repeat (first | (with_reducible first | exact HB.out | apply ae | apply ab | apply ac) | exact HB.out)) hb); clear HO393; clear HB; have HO393 := n0_; have HO397 := n1_; have HB := n2_; clear n0_ n1_ n2_; (try clear hb); (try clear hb2); (try clear hk); (try clear hi); (try clear ho0)) | ((with_reducible refine gate_callee (f := 9) rfl ?_); refine goesL_ (some 75) rfl rfl Tryz.func9 (by kernel_rfl) rfl #[.slice A0 l0.length c0, .int .i64 a1] rfl (by (try simp only [b3, b4, b5]); first | done | rfl | (simp only [b0, b2]; rfl)) ?_; (with_reducible refine (impl_LongSteps.calls kj7 _ _ l0 a1 t398 t399 _ ?side1 ?side2 A13.out).mono ?_); (case side1 => repeat (first | exact (ay HR0.out HB.out) | (with_reducible refine ar ?_ _) | (with_reducible refine au ?_ _) | (with_reducible refine av ?_))); (case side2 => exact HC0.out); rintro e w17 ⟨v400, rfl, ho0, hb⟩; refine ⟨_, rfl, ?_⟩; have n0_ := aa (Kd.R_elder' (by (with_reducible repeat (first | apply ah | apply ag | apply ai)); exact HO393.out) (Kd.R_base ho0) hb); have n1_ := aa (Kd.R_elder' (by (with_reducible repeat (first | apply ah | apply ag | apply ai)); exact HO397.out) (Kd.R_base ho0) hb); have n2_ := aa (bd (Kd.R_new' (Kd.R_new' ho0 (Kd.R_lt (by (with_reducible repeat (first | apply ah | apply ag | apply ai)); exact HO393.out))) (Kd.R_lt (by (with_reducible repeat (first | apply ah | apply ag | apply ai)); exact HO397.out))) (al (by repeat (first | (with_reducible first | exact HB.out | apply ae | apply ab | apply ac) | exact HB.out)))); have n3_ := aa (af (by repeat (first | (with_reducible first | exact HB.out | apply ae | apply ab | apply ac) | exact HB.out)) hb); clear HO393; clear HO397; clear HB; have HO393 := n0_; have HO397 := n1_; have HO401 := n2_; have HB := n3_; clear n0_ n1_ n2_ n3_; (try clear hb); (try clear hb2); (try clear hk); (try clear hi); (try clear ho0)))
    (try simp only [Act.put, a7, a8, a9])
    go_cut [116] (fun v116 wc => ∃ (kq : Nat) (x116_13 : Bool), v116 = .bool x116_13 ∧ Aside0 (laws_FnTopOfAll.j1 kq a2 l3 a4 a5 a6 x116_13 = some r) ∧ Aside0 (kq ≤ kj7) ∧ Aside0 (Below w.heap.size w wc))
    case first => as_aux_lemma =>
     have H := HC14.out; clear HC14; by_cases c18 : t395 = t391
     ·rw [if_pos c18] at H; have c18b0 : (t395 == t391) = true := beq_iff_eq.mpr c18; have c18b1 : (t395 != t391) = false := bne_eq_false_iff_eq.mpr c18; clear c18; (first | rw [c18b0] | (simp only [i64_w, i32_w]; rw [c18b0]) | skip); by_cases c19 : t399 = t391
      ·rw [if_pos c19] at H; have c19b0 : (t399 == t391) = true := beq_iff_eq.mpr c19; have c19b1 : (t399 != t391) = false := bne_eq_false_iff_eq.mpr c19; clear c19; by_cases c20 : t391 = 0
       ·rw [if_pos c20] at H; have c20b0 : (t391 == 0) = true := beq_iff_eq.mpr c20; have c20b1 : (t391 != 0) = false := bne_eq_false_iff_eq.mpr c20; clear c20; replace H := bf.mp H; obtain ⟨t402, A210, H⟩ := H; (try dsimp only at H); have A21 := aa A210; clear A210; by_cases c22 : t402 = true
        ·subst c22; have H1 := H; rw [if_pos rfl] at H1; clear H; have H := H1; clear H1; replace H := bf.mp H; obtain ⟨t403, A230, H⟩ := H; (try dsimp only at H); have A23 := aa A230; clear A230; by_cases c24 : t403 = true
         ·subst c24; have H1 := H; rw [if_pos rfl] at H1; clear H; have H := H1; clear H1; replace H := bf.mp H; obtain ⟨t404, A250, H⟩ := H; (try dsimp only at H); have A25 := aa A250; clear A250; by_cases c26 : t404 = true
          ·subst c26; have H1 := H; rw [if_pos rfl] at H1; clear H; have H := H1; clear H1; have H' := aa H; clear H; obtain ⟨Ao27, co27, eo27⟩ := Kd.R_slice HO397.out; subst eo27; obtain ⟨Ao28, co28, eo28⟩ := Kd.R_slice HO393.out; subst eo28
           go_wp2_with (first | (go_at_call 24; (with_reducible refine (laws_a2Same.calls kj7 _ _ t394 _ _ t390 true _ ?side1 ?side2 ?side3 ?side4 A21.out).mono ?_); (case side1 => repeat (first | exact (aw HO397.out).2.2 | (with_reducible refine ar ?_ _) | (with_reducible refine au ?_ _) | (with_reducible refine av ?_))); (case side2 => exact (aw HO397.out).2.1); (case side3 => repeat (first | exact (aw HO393.out).2.2 | (with_reducible refine ar ?_ _) | (with_reducible refine au ?_ _) | (with_reducible refine av ?_))); (case side4 => exact (aw HO393.out).2.1); rintro e w' ⟨rfl, ⟨nd, rfl⟩⟩) | (go_at_call 10; (with_reducible refine (laws_a2Stand.calls kj7 _ _ l0 _ _ t394 a1 true _ ?side1 ?side2 ?side3 ?side4 A23.out).mono ?_); (case side1 => repeat (first | exact (ay HR0.out (by repeat (first | (with_reducible first | exact HB.out | apply ae | apply ab | apply ac) | exact HB.out))) | (with_reducible refine ar ?_ _) | (with_reducible refine au ?_ _) | (with_reducible refine av ?_))); (case side2 => exact HC0.out); (case side3 => repeat (first | exact (aw HO397.out).2.2 | (with_reducible refine ar ?_ _) | (with_reducible refine au ?_ _) | (with_reducible refine av ?_))); (case side4 => exact (aw HO397.out).2.1); rintro e w29 ⟨rfl, hb⟩; have n0_ := aa (be (by (with_reducible repeat (first | apply ah | apply ag | apply ai)); exact HO393.out) hb); have n1_ := aa (be (by (with_reducible repeat (first | apply ah | apply ag | apply ai)); exact HO397.out) hb); have n2_ := aa (be (by (with_reducible repeat (first | apply ah | apply ag | apply ai)); exact HO401.out) hb); have n3_ := aa (af (by repeat (first | (with_reducible first | exact HB.out | apply ae | apply ab | apply ac) | exact HB.out)) hb); clear HO393; clear HO397; clear HO401; clear HB; have HO393 := n0_; have HO397 := n1_; have HO401 := n2_; have HB := n3_; clear n0_ n1_ n2_ n3_; (try clear hb); (try clear hb2); (try clear hk); (try clear hi); obtain ⟨Ao30, co30, eo30⟩ := Kd.R_slice HO401.out; subst eo30) | (go_at_call 10; (with_reducible refine (laws_a2Stand.calls kj7 _ _ l0 _ _ t398 a1 true _ ?side1 ?side2 ?side3 ?side4 A25.out).mono ?_); (case side1 => repeat (first | exact (ay HR0.out HB.out) | (with_reducible refine ar ?_ _) | (with_reducible refine au ?_ _) | (with_reducible refine av ?_))); (case side2 => exact HC0.out); (case side3 => repeat (first | exact (aw HO401.out).2.2 | (with_reducible refine ar ?_ _) | (with_reducible refine au ?_ _) | (with_reducible refine av ?_))); (case side4 => exact (aw HO401.out).2.1); rintro e w31 ⟨rfl, hb⟩; have n0_ := aa (be (by (with_reducible repeat (first | apply ah | apply ag | apply ai)); exact HO393.out) hb); have n1_ := aa (be (by (with_reducible repeat (first | apply ah | apply ag | apply ai)); exact HO397.out) hb); have n2_ := aa (be (by (with_reducible repeat (first | apply ah | apply ag | apply ai)); exact HO401.out) hb); have n3_ := aa (af (by repeat (first | (with_reducible first | exact HB.out | apply ae | apply ab | apply ac) | exact HB.out)) hb); clear HO393; clear HO397; clear HO401; clear HB; have HO393 := n0_; have HO397 := n1_; have HO401 := n2_; have HB := n3_; clear n0_ n1_ n2_ n3_; (try clear hb); (try clear hb2); (try clear hk); (try clear hi)))
           go_meet
           case rel => exact ⟨_, (decide ((t394.length : Int) > (t398.length : Int))), (by first | rfl | (simp; done) | (simp [*]; done)), H', ⟨by have := HJ7.out; first | omega | exact Nat.le_refl _⟩, ⟨by repeat (first | (with_reducible first | exact HB.out | apply ae | apply ab | apply ac) | exact HB.out)⟩⟩
          ·replace c26 := Bool.eq_false_iff.mpr c26; subst c26; have H1 := H; rw [if_neg (show ¬ (false = true) by decide)] at H1; clear H; have H := H1; clear H1; exact (laws_FnTopOfAll.j1_no H).elim
         ·replace c24 := Bool.eq_false_iff.mpr c24; subst c24; (have H1 : (laws_FnTopOfAll.j1 kj7 a2 l3 a4 a5 a6 true) = some r := by rw [if_neg (show ¬ (false = true) by decide)] at H; exact H); clear H; have H := H1; clear H1; exact (laws_FnTopOfAll.j1_no H).elim
        ·replace c22 := Bool.eq_false_iff.mpr c22; subst c22; (have H1 : (laws_FnTopOfAll.j1 kj7 a2 l3 a4 a5 a6 true) = some r := by rw [if_neg (show ¬ (false = true) by decide)] at H; exact H); clear H; have H := H1; clear H1; exact (laws_FnTopOfAll.j1_no H).elim
       ·rw [if_neg c20] at H; have c20b0 : (t391 == 0) = false := beq_eq_false_iff_ne.mpr c20; have c20b1 : (t391 != 0) = true := bne_iff_ne.mpr c20; have H' := aa H; clear H; go_wp2
        go_meet
        case rel => exact ⟨_, (false), (by first | rfl | (simp; done) | (simp [*]; done)), H', ⟨by have := HJ7.out; first | omega | exact Nat.le_refl _⟩, ⟨by repeat (first | (with_reducible first | exact HB.out | apply ae | apply ab | apply ac) | exact HB.out)⟩⟩
      ·rw [if_neg c19] at H; have c19b0 : (t399 == t391) = false := beq_eq_false_iff_ne.mpr c19; have c19b1 : (t399 != t391) = true := bne_iff_ne.mpr c19; exact (laws_FnTopOfAll.j1_no H).elim
     ·rw [if_neg c18] at H; have c18b0 : (t395 == t391) = false := beq_eq_false_iff_ne.mpr c18; have c18b1 : (t395 != t391) = true := bne_iff_ne.mpr c18; (first | rw [c18b0] | (simp only [i64_w, i32_w]; rw [c18b0]) | skip); exact (laws_FnTopOfAll.j1_no H).elim
    case rest => as_aux_lemma =>
     clear HC14; (try clear c1); (try clear c2); (try clear p2); (try clear c3); (try clear c4); (try clear c8); (try clear c9); (try clear c9b0); (try clear c9b1); (try clear c10); (try clear c18); (try clear c18b0); (try clear c18b1); (try clear c19); (try clear c19b0); (try clear c19b1); (try clear c20); (try clear c20b0); (try clear c20b1); (try clear c22); (try clear c23); (try clear c24); (try clear c26); (try clear p2); obtain ⟨kq, x116_13, rfl, HA, HJ13, HB⟩ := hcut
     cases kq with
     | zero => exact absurd HA.out (by simp [laws_FnTopOfAll.j1])
     | succ kj13 =>
      have H := HA.out; clear HA; simp only [laws_FnTopOfAll.j1] at H; by_cases c42 : x116_13 = true
      ·subst c42; (have H1 : (none) = some r := by rw [if_pos rfl] at H; exact H); clear H; have H := H1; clear H1; exact absurd H (by simp)
      ·replace c42 := Bool.eq_false_iff.mpr c42; subst c42; have H1 := H; rw [if_neg (show ¬ (false = true) by decide)] at H1; clear H; have H := H1; clear H1; replace H := bf.mp H; obtain ⟨⟨t405, t406⟩, A430, H⟩ := H; (try dsimp only at H); have A43 := aa A430; clear A430; replace H := bf.mp H; obtain ⟨⟨t407, t408⟩, A440, H⟩ := H; (try dsimp only at H); have A44 := aa A440; clear A440; replace H := bf.mp H; obtain ⟨⟨t409, t410⟩, A450, H⟩ := H; (try dsimp only at H); have A45 := aa A450; clear A450; have HC46 := aa H; clear H
       go_upto_region 11 with (first | ((with_reducible refine gate_callee (f := 25) rfl ?_); refine goesL_ (some 120) rfl rfl Tryz.func25 (by kernel_rfl) rfl #[.int .i64 a2, .slice A3 l3.length c3] rfl (by (try simp only [b3, b4, b5]); first | done | rfl | (simp only [b0, b2]; rfl)) ?_; (with_reducible refine (spec_FewestColours.calls kj13 a2 _ _ l3 t405 t406 _ ?side1 ?side2 A43.out).mono ?_); (case side1 => repeat (first | exact (ay HR3.out HB.out) | (with_reducible refine ar ?_ _) | (with_reducible refine au ?_ _) | (with_reducible refine av ?_))); (case side2 => exact HC3.out); rintro e w47 ⟨rfl, hb⟩; refine ⟨_, rfl, ?_⟩; have n0_ := aa (af (by repeat (first | (with_reducible first | exact HB.out | apply ae | apply ab | apply ac) | exact HB.out)) hb); clear HB; have HB := n0_; clear n0_; (try clear hb); (try clear hb2); (try clear hk); (try clear hi)) | ((with_reducible refine gate_callee (f := 12) rfl ?_); refine goesL_ (some 126) rfl rfl Tryz.func12 (by kernel_rfl) rfl #[.int .i64 a2, .slice A3 l3.length c3] rfl (by (try simp only [b3, b4, b5]); first | done | rfl | (simp only [b0, b2]; rfl)) ?_; (with_reducible refine (impl_FewestColours.calls kj13 a2 _ _ l3 t407 t408 _ ?side1 ?side2 A44.out).mono ?_); (case side1 => repeat (first | exact (ay HR3.out HB.out) | (with_reducible refine ar ?_ _) | (with_reducible refine au ?_ _) | (with_reducible refine av ?_))); (case side2 => exact HC3.out); rintro e w48 ⟨rfl, hb⟩; refine ⟨_, rfl, ?_⟩; have n0_ := aa (af (by repeat (first | (with_reducible first | exact HB.out | apply ae | apply ab | apply ac) | exact HB.out)) hb); clear HB; have HB := n0_; clear n0_; (try clear hb); (try clear hb2); (try clear hk); (try clear hi)) | ((with_reducible refine gate_callee (f := 13) rfl ?_); refine goesL_ (some 133) rfl rfl Tryz.func13 (by kernel_rfl) rfl #[.int .i64 a2, .slice A3 l3.length c3, .int .i64 t407] rfl (by (try simp only [b3, b4, b5]); first | done | rfl | (simp only [b0, b2]; rfl)) ?_; (with_reducible refine (impl_FirstColours.calls kj13 a2 _ _ l3 t407 t409 t410 _ ?side1 ?side2 A45.out).mono ?_); (case side1 => repeat (first | exact (ay HR3.out HB.out) | (with_reducible refine ar ?_ _) | (with_reducible refine au ?_ _) | (with_reducible refine av ?_))); (case side2 => exact HC3.out); rintro e w49 ⟨v411, rfl, ho0, hb⟩; refine ⟨_, rfl, ?_⟩; have n0_ := aa (bd ho0 (al (by repeat (first | (with_reducible first | exact HB.out | apply ae | apply ab | apply ac) | exact HB.out)))); have n1_ := aa (af (by repeat (first | (with_reducible first | exact HB.out | apply ae | apply ab | apply ac) | exact HB.out)) hb); clear HB; have HO412 := n0_; have HB := n1_; clear n0_ n1_; (try clear hb); (try clear hb2); (try clear hk); (try clear hi); (try clear ho0)))
       (try simp only [Act.put, a7, a8, a9])
       go_cut [147] (fun v147 wc => ∃ (kq : Nat) (x147_45 : Bool), v147 = .bool x147_45 ∧ Aside0 (laws_FnTopOfAll.j2 kq a2 l3 a4 a5 a6 t406 t407 t409 t410 x147_45 = some r) ∧ Aside0 (kq ≤ kj13) ∧ Aside0 (Kd.R (Kd.int .i64) 2 wc w.heap.size (fun _ => True) v411 t409) ∧ Aside0 (Below w.heap.size w wc))
       case first => as_aux_lemma =>
        have H := HC46.out; clear HC46; by_cases c50 : t408 = t406
        ·rw [if_pos c50] at H; have c50b0 : (t408 == t406) = true := beq_iff_eq.mpr c50; have c50b1 : (t408 != t406) = false := bne_eq_false_iff_eq.mpr c50; clear c50; (first | rw [c50b0] | (simp only [i64_w, i32_w]; rw [c50b0]) | skip); by_cases c51 : t406 = 0
         ·rw [if_pos c51] at H; have c51b0 : (t406 == 0) = true := beq_iff_eq.mpr c51; have c51b1 : (t406 != 0) = false := bne_eq_false_iff_eq.mpr c51; clear c51; have H' := aa H; clear H; go_wp2
          go_meet
          case rel => exact ⟨_, ((t407 != t405)), (by first | rfl | (simp; done) | (simp [*]; done)), H', ⟨by have := HJ7.out; have := HJ13.out; first | omega | exact Nat.le_refl _⟩, ⟨by (with_reducible repeat (first | apply ah | apply ag | apply ai)); exact HO412.out⟩, ⟨by repeat (first | (with_reducible first | exact HB.out | apply ae | apply ab | apply ac) | exact HB.out)⟩⟩
         ·rw [if_neg c51] at H; have c51b0 : (t406 == 0) = false := beq_eq_false_iff_ne.mpr c51; have c51b1 : (t406 != 0) = true := bne_iff_ne.mpr c51; have H' := aa H; clear H; go_wp2
          go_meet
          case rel => exact ⟨_, (false), (by first | rfl | (simp; done) | (simp [*]; done)), H', ⟨by have := HJ7.out; have := HJ13.out; first | omega | exact Nat.le_refl _⟩, ⟨by (with_reducible repeat (first | apply ah | apply ag | apply ai)); exact HO412.out⟩, ⟨by repeat (first | (with_reducible first | exact HB.out | apply ae | apply ab | apply ac) | exact HB.out)⟩⟩
        ·rw [if_neg c50] at H; have c50b0 : (t408 == t406) = false := beq_eq_false_iff_ne.mpr c50; have c50b1 : (t408 != t406) = true := bne_iff_ne.mpr c50; (first | rw [c50b0] | (simp only [i64_w, i32_w]; rw [c50b0]) | skip); exact (laws_FnTopOfAll.j2_no H).elim
       case rest => as_aux_lemma =>
        clear HC46; (try clear c1); (try clear c2); (try clear p2); (try clear c3); (try clear c4); (try clear c5); (try clear c8); (try clear c9); (try clear c9b0); (try clear c9b1); (try clear c10); (try clear c12); (try clear c13); (try clear c18); (try clear c18b0); (try clear c18b1); (try clear c19); (try clear c19b0); (try clear c19b1); (try clear c20); (try clear c20b0); (try clear c20b1); (try clear c22); (try clear c23); (try clear c24); (try clear c25); (try clear c26); (try clear c42); (try clear c50); (try clear c50b0); (try clear c50b1); (try clear c51); (try clear c51b0); (try clear c51b1); (try clear p2); obtain ⟨kq, x147_45, rfl, HA, HJ45, HO_25, HB⟩ := hcut
        cases kq with
        | zero => exact absurd HA.out (by simp [laws_FnTopOfAll.j2])
        | succ kj45 =>
         have H := HA.out; clear HA; simp only [laws_FnTopOfAll.j2] at H; by_cases c52 : x147_45 = true
         ·subst c52; (have H1 : (none) = some r := by rw [if_pos rfl] at H; exact H); clear H; have H := H1; clear H1; exact absurd H (by simp)
         ·replace c52 := Bool.eq_false_iff.mpr c52; subst c52; have H1 := H; rw [if_neg (show ¬ (false = true) by decide)] at H1; clear H; have H := H1; clear H1; have HC53 := aa H; clear H
          go_upto_region 13 with (fail)
          go_cut [27] (fun v27 wc => ∃ (kq : Nat) (x27_52 : Bool), v27 = .bool x27_52 ∧ Aside0 (laws_FnTopOfAll.j3 kq a2 l3 a4 a5 a6 t406 t407 t409 t410 x27_52 = some r) ∧ Aside0 (kq ≤ kj45) ∧ Aside0 (Kd.R (Kd.int .i64) 2 wc w.heap.size (fun _ => True) v411 t409) ∧ Aside0 (Below w.heap.size w wc))
          case first => as_aux_lemma =>
           have H := HC53.out; clear HC53; by_cases c54 : t406 = 0
           ·rw [if_pos c54] at H; have c54b0 : (t406 == 0) = true := beq_iff_eq.mpr c54; have c54b1 : (t406 != 0) = false := bne_eq_false_iff_eq.mpr c54; clear c54; (first | rw [c54b0] | (simp only [i64_w, i32_w]; rw [c54b0]) | skip); have H' := aa H; clear H; go_wp2
            go_meet
            case rel => exact ⟨_, (decide (t407 ≤ 6)), (by first | rfl | (simp; done) | (simp [*]; done)), H', ⟨by have := HJ7.out; have := HJ13.out; have := HJ45.out; first | omega | exact Nat.le_refl _⟩, ⟨by (with_reducible repeat (first | apply ah | apply ag | apply ai)); exact HO_25.out⟩, ⟨by repeat (first | (with_reducible first | exact HB.out | apply ae | apply ab | apply ac) | exact HB.out)⟩⟩
           ·rw [if_neg c54] at H; have c54b0 : (t406 == 0) = false := beq_eq_false_iff_ne.mpr c54; have c54b1 : (t406 != 0) = true := bne_iff_ne.mpr c54; (first | rw [c54b0] | (simp only [i64_w, i32_w]; rw [c54b0]) | skip); have H' := aa H; clear H; go_wp2
            go_meet
            case rel => exact ⟨_, (false), (by first | rfl | (simp; done) | (simp [*]; done)), H', ⟨by have := HJ7.out; have := HJ13.out; have := HJ45.out; first | omega | exact Nat.le_refl _⟩, ⟨by (with_reducible repeat (first | apply ah | apply ag | apply ai)); exact HO_25.out⟩, ⟨by repeat (first | (with_reducible first | exact HB.out | apply ae | apply ab | apply ac) | exact HB.out)⟩⟩
          case rest => as_aux_lemma =>
           clear HC53; (try clear c1); (try clear c2); (try clear p2); (try clear c3); (try clear c4); (try clear c5); (try clear c8); (try clear c9); (try clear c9b0); (try clear c9b1); (try clear c10); (try clear c12); (try clear c13); (try clear c18); (try clear c18b0); (try clear c18b1); (try clear c19); (try clear c19b0); (try clear c19b1); (try clear c20); (try clear c20b0); (try clear c20b1); (try clear c22); (try clear c23); (try clear c24); (try clear c25); (try clear c26); (try clear c42); (try clear c50); (try clear c50b0); (try clear c50b1); (try clear c51); (try clear c51b0); (try clear c51b1); (try clear c52); (try clear c54); (try clear c54b0); (try clear c54b1); (try clear p2); obtain ⟨kq, x27_52, rfl, HA, HJ52, HO_25, HB⟩ := hcut
           cases kq with
           | zero => exact absurd HA.out (by simp [laws_FnTopOfAll.j3])
           | succ kj52 =>
            have H := HA.out; clear HA; simp only [laws_FnTopOfAll.j3] at H; have HC55 := aa H; clear H
            go_upto_region 14 with (fail)
            go_cut [168] (fun v168 wc => ∃ (kq : Nat) (x168_54 : Bool), v168 = .bool x168_54 ∧ Aside0 (laws_FnTopOfAll.j4 kq a2 l3 a4 a5 a6 t407 t409 t410 x27_52 x168_54 = some r) ∧ Aside0 (kq ≤ kj52) ∧ Aside0 (Kd.R (Kd.int .i64) 2 wc w.heap.size (fun _ => True) v411 t409) ∧ Aside0 (Below w.heap.size w wc))
            case first => as_aux_lemma =>
             have H := HC55.out; clear HC55; by_cases c56 : t406 = 0
             ·rw [if_pos c56] at H; have c56b0 : (t406 == 0) = true := beq_iff_eq.mpr c56; have c56b1 : (t406 != 0) = false := bne_eq_false_iff_eq.mpr c56; clear c56; (first | rw [c56b0] | (simp only [i64_w, i32_w]; rw [c56b0]) | skip); by_cases c57 : x27_52 = true
              ·subst c57; have H1 := H; rw [if_pos rfl] at H1; clear H; have H := H1; clear H1; have H' := aa H; clear H; go_wp2
               go_meet
               case rel => exact ⟨_, (false), (by first | rfl | (simp; done) | (simp [*]; done)), H', ⟨by have := HJ7.out; have := HJ13.out; have := HJ45.out; have := HJ52.out; first | omega | exact Nat.le_refl _⟩, ⟨by (with_reducible repeat (first | apply ah | apply ag | apply ai)); exact HO_25.out⟩, ⟨by repeat (first | (with_reducible first | exact HB.out | apply ae | apply ab | apply ac) | exact HB.out)⟩⟩
              ·replace c57 := Bool.eq_false_iff.mpr c57; subst c57; have H1 := H; rw [if_neg (show ¬ (false = true) by decide)] at H1; clear H; have H := H1; clear H1; by_cases c58 : t410 = 2
               ·rw [if_pos c58] at H; have c58b0 : (t410 == 2) = true := beq_iff_eq.mpr c58; have c58b1 : (t410 != 2) = false := bne_eq_false_iff_eq.mpr c58; clear c58; have H' := aa H; clear H; obtain ⟨Ao59, co59, eo59⟩ := Kd.R_slice HO_25.out; subst eo59; go_wp2
                go_meet
                case rel => exact ⟨_, (((t409.length : Int) != 0)), (by first | rfl | (simp; done) | (simp [*]; done)), H', ⟨by have := HJ7.out; have := HJ13.out; have := HJ45.out; have := HJ52.out; first | omega | exact Nat.le_refl _⟩, ⟨by (with_reducible repeat (first | apply ah | apply ag | apply ai)); exact HO_25.out⟩, ⟨by repeat (first | (with_reducible first | exact HB.out | apply ae | apply ab | apply ac) | exact HB.out)⟩⟩
               ·rw [if_neg c58] at H; have c58b0 : (t410 == 2) = false := beq_eq_false_iff_ne.mpr c58; have c58b1 : (t410 != 2) = true := bne_iff_ne.mpr c58; exact (laws_FnTopOfAll.j4_no H).elim
             ·rw [if_neg c56] at H; have c56b0 : (t406 == 0) = false := beq_eq_false_iff_ne.mpr c56; have c56b1 : (t406 != 0) = true := bne_iff_ne.mpr c56; (first | rw [c56b0] | (simp only [i64_w, i32_w]; rw [c56b0]) | skip); have H' := aa H; clear H; go_wp2
              go_meet
              case rel => exact ⟨_, (false), (by first | rfl | (simp; done) | (simp [*]; done)), H', ⟨by have := HJ7.out; have := HJ13.out; have := HJ45.out; have := HJ52.out; first | omega | exact Nat.le_refl _⟩, ⟨by (with_reducible repeat (first | apply ah | apply ag | apply ai)); exact HO_25.out⟩, ⟨by repeat (first | (with_reducible first | exact HB.out | apply ae | apply ab | apply ac) | exact HB.out)⟩⟩
            case rest => as_aux_lemma =>
             clear HC55; (try clear c1); (try clear c2); (try clear p2); (try clear c3); (try clear c4); (try clear c5); (try clear c8); (try clear c9); (try clear c9b0); (try clear c9b1); (try clear c10); (try clear c12); (try clear c13); (try clear c18); (try clear c18b0); (try clear c18b1); (try clear c19); (try clear c19b0); (try clear c19b1); (try clear c20); (try clear c20b0); (try clear c20b1); (try clear c22); (try clear c23); (try clear c24); (try clear c25); (try clear c26); (try clear c42); (try clear c50); (try clear c50b0); (try clear c50b1); (try clear c51); (try clear c51b0); (try clear c51b1); (try clear c52); (try clear c54); (try clear c54b0); (try clear c54b1); (try clear c56); (try clear c56b0); (try clear c56b1); (try clear c57); (try clear c58); (try clear c58b0); (try clear c58b1); (try clear p2); obtain ⟨kq, x168_54, rfl, HA, HJ54, HO_25, HB⟩ := hcut
             cases kq with
             | zero => exact absurd HA.out (by simp [laws_FnTopOfAll.j4])
             | succ kj54 =>
              have H := HA.out; clear HA; simp only [laws_FnTopOfAll.j4] at H; by_cases c60 : x168_54 = true
              ·subst c60; (have H1 : (none) = some r := by rw [if_pos rfl] at H; exact H); clear H; have H := H1; clear H1; exact absurd H (by simp)
              ·replace c60 := Bool.eq_false_iff.mpr c60; subst c60; have H1 := H; rw [if_neg (show ¬ (false = true) by decide)] at H1; clear H; have H := H1; clear H1; have HC61 := aa H; clear H
               go_upto_if 169 with (fail)
               go_cut [] (fun wc => ∃ (kq : Nat), Aside0 (laws_FnTopOfAll.j5 kq a2 l3 a4 a5 a6 t407 t409 x27_52 = some r) ∧ Aside0 (kq ≤ kj54) ∧ Aside0 (Kd.R (Kd.int .i64) 2 wc w.heap.size (fun _ => True) v411 t409) ∧ Aside0 (Below w.heap.size w wc))
               case first => as_aux_lemma =>
                have H := HC61.out; clear HC61; by_cases c62 : x27_52 = true
                ·subst c62; have H1 := H; rw [if_pos rfl] at H1; clear H; have H := H1; clear H1; replace H := bf.mp H; obtain ⟨⟨t413, t414⟩, A630, H⟩ := H; (try dsimp only at H); have A63 := aa A630; clear A630; replace H := bf.mp H; obtain ⟨⟨t415, t416⟩, A640, H⟩ := H; (try dsimp only at H); have A64 := aa A640; clear A640; replace H := bf.mp H; obtain ⟨⟨t417, t418⟩, A650, H⟩ := H; (try dsimp only at H); have A65 := aa A650; clear A650; by_cases c66 : t407 < 1
                 ·rw [if_pos c66] at H; exact absurd H (by simp)
                 ·rw [if_neg c66] at H; have c66b0 : decide (t407 < 1) = false := decide_eq_false c66; clear c66; (first | rw [c66b0] | (simp only [i64_w, i32_w]; rw [c66b0]) | skip); by_cases c67 : t407 > a2
                  ·rw [if_pos c67] at H; exact absurd H (by simp)
                  ·rw [if_neg c67] at H; have c67b0 : decide (a2 < t407) = false := decide_eq_false c67; clear c67; by_cases c68 : t410 = 0
                   ·rw [if_pos c68] at H; have c68b0 : (t410 == 0) = true := beq_iff_eq.mpr c68; have c68b1 : (t410 != 0) = false := bne_eq_false_iff_eq.mpr c68; clear c68; by_cases c69 : t414 = 0
                    ·rw [if_pos c69] at H; have c69b0 : (t414 == 0) = true := beq_iff_eq.mpr c69; have c69b1 : (t414 != 0) = false := bne_eq_false_iff_eq.mpr c69; clear c69; by_cases c70 : t413 = (-1)
                     ·rw [if_pos c70] at H; have c70b0 : (t413 == (-1)) = true := beq_iff_eq.mpr c70; have c70b1 : (t413 != (-1)) = false := bne_eq_false_iff_eq.mpr c70; clear c70; by_cases c71 : t415 = (-1)
                      ·rw [if_pos c71] at H; have c71b0 : (t415 == (-1)) = true := beq_iff_eq.mpr c71; have c71b1 : (t415 != (-1)) = false := bne_eq_false_iff_eq.mpr c71; clear c71; replace H := bf.mp H; obtain ⟨t421, A720, H⟩ := H; (try dsimp only at H); have A72 := aa A720; clear A720; by_cases c73 : t421 = true
                       ·subst c73; have H1 := H; rw [if_pos rfl] at H1; clear H; have H := H1; clear H1; have H' := aa H; clear H; obtain ⟨Ao74, co74, eo74⟩ := Kd.R_slice HO_25.out; subst eo74
                        go_wp2_with (first | ((with_reducible refine gate_callee (f := 14) rfl ?_); refine goesL_ (some 174) rfl rfl Tryz.func14 (by kernel_rfl) rfl #[.int .i64 a2, .slice A3 l3.length c3, .slice Ao74 t409.length co74] rfl (by (try simp only [b3, b4, b5]); first | done | rfl | (simp only [b0, b2]; rfl)) ?_; (with_reducible refine (impl_FirstClash.calls kj54 a2 _ _ l3 _ _ t409 t413 t414 _ ?side1 ?side2 ?side3 ?side4 A63.out).mono ?_); (case side1 => repeat (first | exact (ay HR3.out HB.out) | (with_reducible refine ar ?_ _) | (with_reducible refine au ?_ _) | (with_reducible refine av ?_))); (case side2 => exact HC3.out); (case side3 => repeat (first | exact (aw HO_25.out).2.2 | (with_reducible refine ar ?_ _) | (with_reducible refine au ?_ _) | (with_reducible refine av ?_))); (case side4 => exact (aw HO_25.out).2.1); rintro e w75 ⟨rfl, hb⟩; refine ⟨_, rfl, ?_⟩; have n0_ := aa (be (by (with_reducible repeat (first | apply ah | apply ag | apply ai)); exact HO_25.out) hb); have n1_ := aa (af (by repeat (first | (with_reducible first | exact HB.out | apply ae | apply ab | apply ac) | exact HB.out)) hb); clear HO_25; clear HB; have HO_25 := n0_; have HB := n1_; clear n0_ n1_; (try clear hb); (try clear hb2); (try clear hk); (try clear hi)) | ((with_reducible refine gate_callee (f := 26) rfl ?_); refine goesL_ (some 181) rfl rfl Tryz.func26 (by kernel_rfl) rfl #[.int .i64 a2, .slice A3 l3.length c3, .slice Ao74 t409.length co74] rfl (by (try simp only [b3, b4, b5]); first | done | rfl | (simp only [b0, b2]; rfl)) ?_; (with_reducible refine (spec_FirstClash.calls kj54 a2 _ _ l3 _ _ t409 t415 t416 _ ?side1 ?side2 ?side3 ?side4 A64.out).mono ?_); (case side1 => repeat (first | exact (ay HR3.out HB.out) | (with_reducible refine ar ?_ _) | (with_reducible refine au ?_ _) | (with_reducible refine av ?_))); (case side2 => exact HC3.out); (case side3 => repeat (first | exact (aw HO_25.out).2.2 | (with_reducible refine ar ?_ _) | (with_reducible refine au ?_ _) | (with_reducible refine av ?_))); (case side4 => exact (aw HO_25.out).2.1); rintro e w' ⟨rfl, ⟨nd, rfl⟩⟩; refine ⟨_, rfl, ?_⟩) | ((with_reducible refine gate_callee (f := 27) rfl ?_); refine goesL_ (some 188) rfl rfl Tryz.func27 (by kernel_rfl) rfl #[.int .i64 a2, .slice A3 l3.length c3, .int .i64 t407] rfl (by (try simp only [b3, b4, b5]); first | done | rfl | (simp only [b0, b2]; rfl)) ?_; (with_reducible refine (spec_FirstColours.calls kj54 a2 _ _ l3 t407 t417 t418 _ ?side1 ?side2 A65.out).mono ?_); (case side1 => repeat (first | exact (ay HR3.out (by repeat (first | (with_reducible first | exact HB.out | apply ae | apply ab | apply ac) | exact HB.out))) | (with_reducible refine ar ?_ _) | (with_reducible refine au ?_ _) | (with_reducible refine av ?_))); (case side2 => exact HC3.out); rintro e w76 ⟨v419, rfl, ho0, hb⟩; refine ⟨_, rfl, ?_⟩; have n0_ := aa (Kd.R_elder' (by (with_reducible repeat (first | apply ah | apply ag | apply ai)); exact HO_25.out) (Kd.R_base ho0) hb); have n1_ := aa (bd (Kd.R_new' ho0 (Kd.R_lt (by (with_reducible repeat (first | apply ah | apply ag | apply ai)); exact HO_25.out))) (al (by repeat (first | (with_reducible first | exact HB.out | apply ae | apply ab | apply ac) | exact HB.out)))); have n2_ := aa (af (by repeat (first | (with_reducible first | exact HB.out | apply ae | apply ab | apply ac) | exact HB.out)) hb); clear HO_25; clear HB; have HO_25 := n0_; have HO420 := n1_; have HB := n2_; clear n0_ n1_ n2_; (try clear hb); (try clear hb2); (try clear hk); (try clear hi); (try clear ho0); obtain ⟨Ao77, co77, eo77⟩ := Kd.R_slice HO420.out; subst eo77) | (go_at_call 24; (with_reducible refine (laws_a2Same.calls kj54 _ _ t409 _ _ t417 true _ ?side1 ?side2 ?side3 ?side4 A72.out).mono ?_); (case side1 => repeat (first | exact (aw HO_25.out).2.2 | (with_reducible refine ar ?_ _) | (with_reducible refine au ?_ _) | (with_reducible refine av ?_))); (case side2 => exact (aw HO_25.out).2.1); (case side3 => repeat (first | exact (aw HO420.out).2.2 | (with_reducible refine ar ?_ _) | (with_reducible refine au ?_ _) | (with_reducible refine av ?_))); (case side4 => exact (aw HO420.out).2.1); rintro e w' ⟨rfl, ⟨nd, rfl⟩⟩))
                        go_meet
                        case rel => exact ⟨_, H', ⟨by have := HJ7.out; have := HJ13.out; have := HJ45.out; have := HJ52.out; have := HJ54.out; first | omega | exact Nat.le_refl _⟩, ⟨by (with_reducible repeat (first | apply ah | apply ag | apply ai)); exact bc HO_25.out (fun _ hk => trivial)⟩, ⟨by repeat (first | (with_reducible first | exact HB.out | apply ae | apply ab | apply ac) | exact HB.out)⟩⟩
                       ·replace c73 := Bool.eq_false_iff.mpr c73; subst c73; (have H1 : (none) = some r := by rw [if_neg (show ¬ (false = true) by decide)] at H; exact H); clear H; have H := H1; clear H1; exact absurd H (by simp)
                      ·rw [if_neg c71] at H; exact absurd H (by simp)
                     ·rw [if_neg c70] at H; exact absurd H (by simp)
                    ·rw [if_neg c69] at H; exact absurd H (by simp)
                   ·rw [if_neg c68] at H; exact absurd H (by simp)
                ·replace c62 := Bool.eq_false_iff.mpr c62; subst c62; have H1 := H; rw [if_neg (show ¬ (false = true) by decide)] at H1; clear H; have H := H1; clear H1; have H' := aa H; clear H; go_wp2
                 go_meet
                 case rel => exact ⟨_, H', ⟨by have := HJ7.out; have := HJ13.out; have := HJ45.out; have := HJ52.out; have := HJ54.out; first | omega | exact Nat.le_refl _⟩, ⟨by (with_reducible repeat (first | apply ah | apply ag | apply ai)); exact HO_25.out⟩, ⟨by repeat (first | (with_reducible first | exact HB.out | apply ae | apply ab | apply ac) | exact HB.out)⟩⟩
               case rest => as_aux_lemma =>
                clear HC61; (try clear c1); (try clear c2); (try clear p2); (try clear c3); (try clear c4); (try clear c5); (try clear c6); (try clear c7); (try clear c8); (try clear c9); (try clear c9b0); (try clear c9b1); (try clear c10); (try clear c12); (try clear c13); (try clear c14); (try clear c18); (try clear c18b0); (try clear c18b1); (try clear c19); (try clear c19b0); (try clear c19b1); (try clear c20); (try clear c20b0); (try clear c20b1); (try clear c22); (try clear c23); (try clear c24); (try clear c25); (try clear c26); (try clear c27); (try clear c42); (try clear c50); (try clear c50b0); (try clear c50b1); (try clear c51); (try clear c51b0); (try clear c51b1); (try clear c52); (try clear c54); (try clear c54b0); (try clear c54b1); (try clear c56); (try clear c56b0); (try clear c56b1); (try clear c57); (try clear c58); (try clear c58b0); (try clear c58b1); (try clear c60); (try clear c62); (try clear c66); (try clear c66b0); (try clear c67); (try clear c67b0); (try clear c68); (try clear c68b0); (try clear c68b1); (try clear c69); (try clear c69b0); (try clear c69b1); (try clear c70); (try clear c70b0); (try clear c70b1); (try clear c71); (try clear c71b0); (try clear c71b1); (try clear c73); (try clear p2); obtain ⟨kq, HA, HJ60, HO_25, HB⟩ := hcut
                cases kq with
                | zero => exact absurd HA.out (by simp [laws_FnTopOfAll.j5])
                | succ kj60 =>
                 have H := HA.out; clear HA; simp only [laws_FnTopOfAll.j5] at H; have H' := aa H; clear H; go_wp2
                 go_loopg [34] kj60 (fun kq v34 w' => ∃ (x34_7 : Int), v34 = .int .i64 x34_7 ∧ Aside0 (laws_FnTopOfAll.l0 kq a2 l3 a4 a5 a6 t407 t409 x27_52 x34_7 = some r) ∧ Aside0 (kq ≤ kj60) ∧ Aside0 (Kd.R (Kd.int .i64) 2 w' w.heap.size (fun _ => True) v411 t409) ∧ Aside0 (Below w.heap.size w w'))
                 case atStart => exact ⟨(0), (by first | rfl | (simp; done) | (simp [*]; done)), H', ⟨Nat.le_refl _⟩, ⟨by (with_reducible repeat (first | apply ah | apply ag | apply ai)); exact HO_25.out⟩, ⟨by repeat (first | (with_reducible first | exact HB.out | apply ae | apply ab | apply ac) | exact HB.out)⟩⟩
                 case round => as_aux_lemma =>
                  clear H'; (try clear c1); (try clear c2); (try clear p2); (try clear c3); (try clear c4); (try clear c5); (try clear c6); (try clear c7); (try clear c8); (try clear c9); (try clear c9b0); (try clear c9b1); (try clear c10); (try clear c12); (try clear c13); (try clear c14); (try clear c18); (try clear c18b0); (try clear c18b1); (try clear c19); (try clear c19b0); (try clear c19b1); (try clear c20); (try clear c20b0); (try clear c20b1); (try clear c22); (try clear c23); (try clear c24); (try clear c25); (try clear c26); (try clear c27); (try clear c42); (try clear c50); (try clear c50b0); (try clear c50b1); (try clear c51); (try clear c51b0); (try clear c51b1); (try clear c52); (try clear c54); (try clear c54b0); (try clear c54b1); (try clear c56); (try clear c56b0); (try clear c56b1); (try clear c57); (try clear c58); (try clear c58b0); (try clear c58b1); (try clear c60); (try clear c62); (try clear c66); (try clear c66b0); (try clear c67); (try clear c67b0); (try clear c68); (try clear c68b0); (try clear c68b1); (try clear c69); (try clear c69b0); (try clear c69b1); (try clear c70); (try clear c70b0); (try clear c70b1); (try clear c71); (try clear c71b0); (try clear c71b1); (try clear c73); (try clear p2); obtain ⟨x34_7, rfl, HA, HK7, HO_25, HB⟩ := hrel
                  cases gk with
                  | zero => exact absurd HA.out (by simp [laws_FnTopOfAll.l0])
                  | succ k7 =>
                   have H := HA.out; clear HA; simp only [laws_FnTopOfAll.l0] at H; have HC78 := aa H; clear H
                   go_upto_region 23 with (fail)
                   go_cut [226] (fun v226 wc => ∃ (kq : Nat) (x226_77 : Bool), v226 = .bool x226_77 ∧ Aside0 (laws_FnTopOfAll.j7 kq a2 l3 a4 a5 a6 t407 t409 x27_52 x34_7 x226_77 = some r) ∧ Aside0 (kq ≤ k7) ∧ Aside0 (Kd.R (Kd.int .i64) 2 wc w.heap.size (fun _ => True) v411 t409) ∧ Aside0 (Below w.heap.size w wc))
                   case first => as_aux_lemma =>
                    have H := HC78.out; clear HC78; by_cases c79 : x27_52 = true
                    ·subst c79; have H1 := H; rw [if_pos rfl] at H1; clear H; have H := H1; clear H1; have H' := aa H; clear H; obtain ⟨Ao80, co80, eo80⟩ := Kd.R_slice HO_25.out; subst eo80; go_wp2
                     go_meet
                     case rel => exact ⟨_, (decide (x34_7 < (t409.length : Int))), (by first | rfl | (simp; done) | (simp [*]; done)), H', ⟨by have := HJ7.out; have := HJ13.out; have := HJ45.out; have := HJ52.out; have := HJ54.out; have := HJ60.out; have := HK7.out; first | omega | exact Nat.le_refl _⟩, ⟨by (with_reducible repeat (first | apply ah | apply ag | apply ai)); exact HO_25.out⟩, ⟨by repeat (first | (with_reducible first | exact HB.out | apply ae | apply ab | apply ac) | exact HB.out)⟩⟩
                    ·replace c79 := Bool.eq_false_iff.mpr c79; subst c79; have H1 := H; rw [if_neg (show ¬ (false = true) by decide)] at H1; clear H; have H := H1; clear H1; have H' := aa H; clear H; go_wp2
                     go_meet
                     case rel => exact ⟨_, (false), (by first | rfl | (simp; done) | (simp [*]; done)), H', ⟨by have := HJ7.out; have := HJ13.out; have := HJ45.out; have := HJ52.out; have := HJ54.out; have := HJ60.out; have := HK7.out; first | omega | exact Nat.le_refl _⟩, ⟨by (with_reducible repeat (first | apply ah | apply ag | apply ai)); exact HO_25.out⟩, ⟨by repeat (first | (with_reducible first | exact HB.out | apply ae | apply ab | apply ac) | exact HB.out)⟩⟩
                   case rest => as_aux_lemma =>
                    clear HC78; (try clear c1); (try clear c2); (try clear p2); (try clear c3); (try clear c4); (try clear c5); (try clear c6); (try clear c7); (try clear c8); (try clear c9); (try clear c9b0); (try clear c9b1); (try clear c10); (try clear c12); (try clear c13); (try clear c14); (try clear c18); (try clear c18b0); (try clear c18b1); (try clear c19); (try clear c19b0); (try clear c19b1); (try clear c20); (try clear c20b0); (try clear c20b1); (try clear c22); (try clear c23); (try clear c24); (try clear c25); (try clear c26); (try clear c27); (try clear c42); (try clear c50); (try clear c50b0); (try clear c50b1); (try clear c51); (try clear c51b0); (try clear c51b1); (try clear c52); (try clear c54); (try clear c54b0); (try clear c54b1); (try clear c56); (try clear c56b0); (try clear c56b1); (try clear c57); (try clear c58); (try clear c58b0); (try clear c58b1); (try clear c60); (try clear c62); (try clear c66); (try clear c66b0); (try clear c67); (try clear c67b0); (try clear c68); (try clear c68b0); (try clear c68b1); (try clear c69); (try clear c69b0); (try clear c69b1); (try clear c70); (try clear c70b0); (try clear c70b1); (try clear c71); (try clear c71b0); (try clear c71b1); (try clear c73); (try clear c79); (try clear p2); obtain ⟨kq, x226_77, rfl, HA, HJ77, HO_25, HB⟩ := hcut
                    cases kq with
                    | zero => exact absurd HA.out (by simp [laws_FnTopOfAll.j7])
                    | succ kj77 =>
                     have H := HA.out; clear HA; simp only [laws_FnTopOfAll.j7] at H; by_cases c81 : x226_77 = true
                     ·subst c81; have H1 := H; rw [if_pos rfl] at H1; clear H; have H := H1; clear H1; by_cases c82 : 0 ≤ x34_7
                      ·rw [if_pos c82] at H; have c82b0 : decide (0 ≤ x34_7) = true := decide_eq_true c82; clear c82; by_cases c83 : x34_7 < (t409.length : Int)
                       ·rw [if_pos c83] at H; have c83b0 : decide (x34_7 < (t409.length : Int)) = true := decide_eq_true c83; clear c83; by_cases c84 : (rd t409 x34_7) < 0
                        ·rw [if_pos c84] at H; exact absurd H (by simp)
                        ·rw [if_neg c84] at H; have c84b0 : decide ((rd t409 x34_7) < 0) = false := decide_eq_false c84; clear c84; by_cases c85 : (rd t409 x34_7) ≥ t407
                         ·rw [if_pos c85] at H; exact absurd H (by simp)
                         ·rw [if_neg c85] at H; have c85b0 : decide (t407 ≤ (rd t409 x34_7)) = false := decide_eq_false c85; clear c85; have H' := aa H; clear H; obtain ⟨Ao86, co86, eo86⟩ := Kd.R_slice HO_25.out; subst eo86; have p422 : 0 ≤ (x34_7 : Int) := of_decide_eq_true (by first | (with_reducible assumption) | assumption); have q422 : x34_7 < (t409.length : Int) := of_decide_eq_true (by first | (with_reducible assumption) | assumption); obtain ⟨ad422, e422, hx422_0⟩ := ax (aw HO_25.out).2.2 x34_7 p422 q422
                          cases e422
                          replace p422 := eq_true p422; replace q422 := eq_true q422; have p423 : 0 ≤ (x34_7 : Int) := of_decide_eq_true (by first | (with_reducible assumption) | assumption); have q423 : x34_7 < (t409.length : Int) := of_decide_eq_true (by first | (with_reducible assumption) | assumption); obtain ⟨ad423, e423, hx423_0⟩ := ax (aw HO_25.out).2.2 x34_7 p423 q423; obtain rfl : ad422 = ad423 := (by injection e423); replace p423 := eq_true p423; replace q423 := eq_true q423; go_wp2; go_roundg kj77
                          case measure => have := HJ7.out; have := HJ13.out; have := HJ45.out; have := HJ52.out; have := HJ54.out; have := HJ60.out; have := HK7.out; have := HJ77.out; omega
                          case rel => exact ⟨(wrap64 (x34_7 + 1)), (by first | rfl | (simp; done) | (simp [*]; done)), H', ⟨by have := HJ7.out; have := HJ13.out; have := HJ45.out; have := HJ52.out; have := HJ54.out; have := HJ60.out; have := HK7.out; have := HJ77.out; omega⟩, ⟨by (with_reducible repeat (first | apply ah | apply ag | apply ai)); exact HO_25.out⟩, ⟨by repeat (first | (with_reducible first | exact HB.out | apply ae | apply ab | apply ac) | exact HB.out)⟩⟩
                       ·rw [if_neg c83] at H; exact absurd H (by simp)
                      ·rw [if_neg c82] at H; exact absurd H (by simp)
                     ·replace c81 := Bool.eq_false_iff.mpr c81; subst c81; have H1 := H; rw [if_neg (show ¬ (false = true) by decide)] at H1; clear H; have H := H1; clear H1; have HC87 := aa H; clear H
                      go_upto_region 27 with (fail)
                      go_cut [246] (fun v246 wc => ∃ (kq : Nat) (x246_86 : Bool), v246 = .bool x246_86 ∧ Aside0 (laws_FnTopOfAll.j8 kq a2 l3 a4 a5 a6 t407 x246_86 = some r) ∧ Aside0 (kq ≤ kj77) ∧ Aside0 (Below w.heap.size w wc))
                      case first => as_aux_lemma =>
                       have H := HC87.out; clear HC87; by_cases c88 : x27_52 = true
                       ·subst c88; have H1 := H; rw [if_pos rfl] at H1; clear H; have H := H1; clear H1; have H' := aa H; clear H; go_wp2
                        go_meet
                        case rel => exact ⟨_, (decide (t407 > 1)), (by first | rfl | (simp; done) | (simp [*]; done)), H', ⟨by have := HJ7.out; have := HJ13.out; have := HJ45.out; have := HJ52.out; have := HJ54.out; have := HJ60.out; have := HK7.out; have := HJ77.out; first | omega | exact Nat.le_refl _⟩, ⟨by repeat (first | (with_reducible first | exact HB.out | apply ae | apply ab | apply ac) | exact HB.out)⟩⟩
                       ·replace c88 := Bool.eq_false_iff.mpr c88; subst c88; have H1 := H; rw [if_neg (show ¬ (false = true) by decide)] at H1; clear H; have H := H1; clear H1; have H' := aa H; clear H; go_wp2
                        go_meet
                        case rel => exact ⟨_, (false), (by first | rfl | (simp; done) | (simp [*]; done)), H', ⟨by have := HJ7.out; have := HJ13.out; have := HJ45.out; have := HJ52.out; have := HJ54.out; have := HJ60.out; have := HK7.out; have := HJ77.out; first | omega | exact Nat.le_refl _⟩, ⟨by repeat (first | (with_reducible first | exact HB.out | apply ae | apply ab | apply ac) | exact HB.out)⟩⟩
                      case rest => as_aux_lemma =>
                       clear HC87; (try clear c1); (try clear c2); (try clear p2); (try clear c3); (try clear c4); (try clear p4); (try clear q4); (try clear hx4); (try clear c5); (try clear c6); (try clear p6); (try clear c7); (try clear c8); (try clear c9); (try clear c9b0); (try clear c9b1); (try clear c10); (try clear c12); (try clear c13); (try clear c14); (try clear c18); (try clear c18b0); (try clear c18b1); (try clear c19); (try clear c19b0); (try clear c19b1); (try clear c20); (try clear c20b0); (try clear c20b1); (try clear c22); (try clear c23); (try clear c24); (try clear c25); (try clear c26); (try clear c27); (try clear c42); (try clear p42); (try clear q42); (try clear hx42); (try clear c50); (try clear c50b0); (try clear c50b1); (try clear c51); (try clear c51b0); (try clear c51b1); (try clear c52); (try clear c54); (try clear c54b0); (try clear c54b1); (try clear c56); (try clear c56b0); (try clear c56b1); (try clear c57); (try clear c58); (try clear c58b0); (try clear c58b1); (try clear c60); (try clear c62); (try clear p64); (try clear c66); (try clear c66b0); (try clear c67); (try clear c67b0); (try clear c68); (try clear c68b0); (try clear c68b1); (try clear c69); (try clear c69b0); (try clear c69b1); (try clear c70); (try clear c70b0); (try clear c70b1); (try clear c71); (try clear c71b0); (try clear c71b1); (try clear c73); (try clear c79); (try clear c81); (try clear c82); (try clear c82b0); (try clear c83); (try clear c83b0); (try clear c84); (try clear c84b0); (try clear c85); (try clear c85b0); (try clear c88); (try clear hx422_0); (try clear hx423_0); (try clear p2); (try clear p422); (try clear p423); (try clear q422); (try clear q423); obtain ⟨kq, x246_86, rfl, HA, HJ86, HB⟩ := hcut
                       cases kq with
                       | zero => exact absurd HA.out (by simp [laws_FnTopOfAll.j8])
                       | succ kj86 =>
                        have H := HA.out; clear HA; simp only [laws_FnTopOfAll.j8] at H; have HC89 := aa H; clear H
                        go_upto_if 246 with (fail)
                        go_cut [] (fun wc => ∃ (kq : Nat), Aside0 (laws_FnTopOfAll.j9 kq a4 a5 a6 = some r) ∧ Aside0 (kq ≤ kj86) ∧ Aside0 (Below w.heap.size w wc))
                        case first => as_aux_lemma =>
                         have H := HC89.out; clear HC89; by_cases c90 : x246_86 = true
                         ·subst c90; have H1 := H; rw [if_pos rfl] at H1; clear H; have H := H1; clear H1; replace H := bf.mp H; obtain ⟨⟨t424, t425⟩, A910, H⟩ := H; (try dsimp only at H); have A91 := aa A910; clear A910; by_cases c92 : t425 = 0
                          ·rw [if_pos c92] at H; have c92b0 : (t425 == 0) = true := beq_iff_eq.mpr c92; have c92b1 : (t425 != 0) = false := bne_eq_false_iff_eq.mpr c92; clear c92; (first | rw [c92b0] | (simp only [i64_w, i32_w]; rw [c92b0]) | skip); by_cases c93 : t424 = 0
                           ·rw [if_pos c93] at H; have c93b0 : (t424 == 0) = true := beq_iff_eq.mpr c93; have c93b1 : (t424 != 0) = false := bne_eq_false_iff_eq.mpr c93; clear c93; have H' := aa H; clear H
                            go_wp2_with (first | ((with_reducible refine gate_callee (f := 15) rfl ?_); refine goesL_ (some 252) rfl rfl Tryz.func15 (by kernel_rfl) rfl #[.int .i64 a2, .slice A3 l3.length c3, .int .i64 (wrap64 (t407 - 1))] rfl (by (try simp only [b3, b4, b5]); first | done | rfl | (simp only [b0, b2]; rfl)) ?_; (with_reducible refine (spec_CountColours.calls kj86 a2 _ _ l3 (wrap64 (t407 - 1)) t424 t425 _ ?side1 ?side2 A91.out).mono ?_); (case side1 => repeat (first | exact (ay HR3.out HB.out) | (with_reducible refine ar ?_ _) | (with_reducible refine au ?_ _) | (with_reducible refine av ?_))); (case side2 => exact HC3.out); rintro e w94 ⟨rfl, hb⟩; refine ⟨_, rfl, ?_⟩; have n0_ := aa (af (by repeat (first | (with_reducible first | exact HB.out | apply ae | apply ab | apply ac) | exact HB.out)) hb); clear HB; have HB := n0_; clear n0_; (try clear hb); (try clear hb2); (try clear hk); (try clear hi)))
                            go_meet
                            case rel => exact ⟨_, H', ⟨by have := HJ7.out; have := HJ13.out; have := HJ45.out; have := HJ52.out; have := HJ54.out; have := HJ60.out; have := HK7.out; have := HJ77.out; have := HJ86.out; first | omega | exact Nat.le_refl _⟩, ⟨by repeat (first | (with_reducible first | exact HB.out | apply ae | apply ab | apply ac) | exact HB.out)⟩⟩
                           ·rw [if_neg c93] at H; exact absurd H (by simp)
                          ·rw [if_neg c92] at H; exact absurd H (by simp)
                         ·replace c90 := Bool.eq_false_iff.mpr c90; subst c90; have H1 := H; rw [if_neg (show ¬ (false = true) by decide)] at H1; clear H; have H := H1; clear H1; have H' := aa H; clear H; go_wp2
                          go_meet
                          case rel => exact ⟨_, H', ⟨by have := HJ7.out; have := HJ13.out; have := HJ45.out; have := HJ52.out; have := HJ54.out; have := HJ60.out; have := HK7.out; have := HJ77.out; have := HJ86.out; first | omega | exact Nat.le_refl _⟩, ⟨by repeat (first | (with_reducible first | exact HB.out | apply ae | apply ab | apply ac) | exact HB.out)⟩⟩
                        case rest => as_aux_lemma =>
                         clear HC89; (try clear c1); (try clear c2); (try clear p2); (try clear c3); (try clear c4); (try clear p4); (try clear q4); (try clear hx4); (try clear c5); (try clear c6); (try clear p6); (try clear c7); (try clear c8); (try clear c9); (try clear c9b0); (try clear c9b1); (try clear c10); (try clear c12); (try clear c13); (try clear c14); (try clear c15); (try clear c18); (try clear c18b0); (try clear c18b1); (try clear c19); (try clear c19b0); (try clear c19b1); (try clear c20); (try clear c20b0); (try clear c20b1); (try clear c22); (try clear c23); (try clear c24); (try clear c25); (try clear c26); (try clear c27); (try clear c42); (try clear p42); (try clear q42); (try clear hx42); (try clear c50); (try clear c50b0); (try clear c50b1); (try clear c51); (try clear c51b0); (try clear c51b1); (try clear c52); (try clear c54); (try clear c54b0); (try clear c54b1); (try clear c56); (try clear c56b0); (try clear c56b1); (try clear c57); (try clear c58); (try clear c58b0); (try clear c58b1); (try clear c60); (try clear c62); (try clear p64); (try clear c66); (try clear c66b0); (try clear c67); (try clear c67b0); (try clear c68); (try clear c68b0); (try clear c68b1); (try clear c69); (try clear c69b0); (try clear c69b1); (try clear c70); (try clear c70b0); (try clear c70b1); (try clear c71); (try clear c71b0); (try clear c71b1); (try clear c73); (try clear c79); (try clear c81); (try clear c82); (try clear c82b0); (try clear c83); (try clear c83b0); (try clear c84); (try clear c84b0); (try clear c85); (try clear c85b0); (try clear c88); (try clear c90); (try clear c92); (try clear c92b0); (try clear c92b1); (try clear c93); (try clear c93b0); (try clear c93b1); (try clear hx422_0); (try clear hx423_0); (try clear p2); (try clear p4); (try clear p42); (try clear p422); (try clear p423); (try clear p6); (try clear p64); (try clear q4); (try clear q42); (try clear q422); (try clear q423); obtain ⟨kq, HA, HJ88, HB⟩ := hcut
                         cases kq with
                         | zero => exact absurd HA.out (by simp [laws_FnTopOfAll.j9])
                         | succ kj88 =>
                          have H := HA.out; clear HA; simp only [laws_FnTopOfAll.j9] at H; replace H := bf.mp H; obtain ⟨⟨t426, t427⟩, A950, H⟩ := H; (try dsimp only at H); have A95 := aa A950; clear A950; replace H := bf.mp H; obtain ⟨⟨t428, t429⟩, A960, H⟩ := H; (try dsimp only at H); have A96 := aa A960; clear A960; have HC97 := aa H; clear H
                          go_upto_region 33 with (first | ((with_reducible refine gate_callee (f := 20) rfl ?_); refine goesL_ (some 264) rfl rfl Tryz.func20 (by kernel_rfl) rfl #[.int .i64 a4, .int .i64 a5, .int .i64 0] rfl (by (try simp only [b3, b4, b5]); first | done | rfl | (simp only [b0, b2]; rfl)) ?_; (with_reducible refine (spec_IsUp.calls kj88 a4 a5 0 t426 t427 _ A95.out).mono ?_); rintro e w98 ⟨rfl, hb⟩; refine ⟨_, rfl, ?_⟩; have n0_ := aa (af (by repeat (first | (with_reducible first | exact HB.out | apply ae | apply ab | apply ac) | exact HB.out)) hb); clear HB; have HB := n0_; clear n0_; (try clear hb); (try clear hb2); (try clear hk); (try clear hi)) | ((with_reducible refine gate_callee (f := 22) rfl ?_); refine goesL_ (some 271) rfl rfl Tryz.func22 (by kernel_rfl) rfl #[.int .i64 a4, .int .i64 a5, .int .i64 a6] rfl (by (try simp only [b3, b4, b5]); first | done | rfl | (simp only [b0, b2]; rfl)) ?_; (with_reducible refine (spec_SettingByTurning.calls kj88 a4 a5 a6 t428 t429 _ A96.out).mono ?_); rintro e w99 ⟨rfl, hb⟩; refine ⟨_, rfl, ?_⟩; have n0_ := aa (af (by repeat (first | (with_reducible first | exact HB.out | apply ae | apply ab | apply ac) | exact HB.out)) hb); clear HB; have HB := n0_; clear n0_; (try clear hb); (try clear hb2); (try clear hk); (try clear hi)))
                          (try simp only [Act.put, a7, a8, a9])
                          go_cut [279] (fun v279 wc => ∃ (kq : Nat) (x279_96 : Bool), v279 = .bool x279_96 ∧ Aside0 (laws_FnTopOfAll.j10 kq a4 a5 a6 x279_96 = some r) ∧ Aside0 (kq ≤ kj88) ∧ Aside0 (Below w.heap.size w wc))
                          case first => as_aux_lemma =>
                           have H := HC97.out; clear HC97; by_cases c100 : t427 = 0
                           ·rw [if_pos c100] at H; have c100b0 : (t427 == 0) = true := beq_iff_eq.mpr c100; have c100b1 : (t427 != 0) = false := bne_eq_false_iff_eq.mpr c100; clear c100; (first | rw [c100b0] | (simp only [i64_w, i32_w]; rw [c100b0]) | skip); have H' := aa H; clear H; go_wp2
                            go_meet
                            case rel => exact ⟨_, ((t429 == 2)), (by first | rfl | (simp; done) | (simp [*]; done)), H', ⟨by have := HJ7.out; have := HJ13.out; have := HJ45.out; have := HJ52.out; have := HJ54.out; have := HJ60.out; have := HK7.out; have := HJ77.out; have := HJ86.out; have := HJ88.out; first | omega | exact Nat.le_refl _⟩, ⟨by repeat (first | (with_reducible first | exact HB.out | apply ae | apply ab | apply ac) | exact HB.out)⟩⟩
                           ·rw [if_neg c100] at H; have c100b0 : (t427 == 0) = false := beq_eq_false_iff_ne.mpr c100; have c100b1 : (t427 != 0) = true := bne_iff_ne.mpr c100; (first | rw [c100b0] | (simp only [i64_w, i32_w]; rw [c100b0]) | skip); have H' := aa H; clear H; go_wp2
                            go_meet
                            case rel => exact ⟨_, (true), (by first | rfl | (simp; done) | (simp [*]; done)), H', ⟨by have := HJ7.out; have := HJ13.out; have := HJ45.out; have := HJ52.out; have := HJ54.out; have := HJ60.out; have := HK7.out; have := HJ77.out; have := HJ86.out; have := HJ88.out; first | omega | exact Nat.le_refl _⟩, ⟨by repeat (first | (with_reducible first | exact HB.out | apply ae | apply ab | apply ac) | exact HB.out)⟩⟩
                          case rest => as_aux_lemma =>
                           clear HC97; (try clear c1); (try clear c2); (try clear p2); (try clear c3); (try clear c4); (try clear p4); (try clear q4); (try clear hx4); (try clear c5); (try clear c6); (try clear p6); (try clear c7); (try clear c8); (try clear c9); (try clear c9b0); (try clear c9b1); (try clear c10); (try clear c12); (try clear c13); (try clear c14); (try clear c15); (try clear c18); (try clear c18b0); (try clear c18b1); (try clear c19); (try clear c19b0); (try clear c19b1); (try clear c20); (try clear c20b0); (try clear c20b1); (try clear c22); (try clear c23); (try clear c24); (try clear c25); (try clear c26); (try clear c27); (try clear c42); (try clear p42); (try clear q42); (try clear hx42); (try clear c50); (try clear c50b0); (try clear c50b1); (try clear c51); (try clear c51b0); (try clear c51b1); (try clear c52); (try clear c54); (try clear c54b0); (try clear c54b1); (try clear c56); (try clear c56b0); (try clear c56b1); (try clear c57); (try clear c58); (try clear c58b0); (try clear c58b1); (try clear c60); (try clear c62); (try clear p64); (try clear c66); (try clear c66b0); (try clear c67); (try clear c67b0); (try clear c68); (try clear c68b0); (try clear c68b1); (try clear c69); (try clear c69b0); (try clear c69b1); (try clear c70); (try clear c70b0); (try clear c70b1); (try clear c71); (try clear c71b0); (try clear c71b1); (try clear c73); (try clear c79); (try clear c81); (try clear c82); (try clear c82b0); (try clear c83); (try clear c83b0); (try clear c84); (try clear c84b0); (try clear c85); (try clear c85b0); (try clear c88); (try clear c90); (try clear c92); (try clear c92b0); (try clear c92b1); (try clear c93); (try clear c93b0); (try clear c93b1); (try clear c100); (try clear c100b0); (try clear c100b1); (try clear hx422_0); (try clear hx423_0); (try clear p2); (try clear p4); (try clear p42); (try clear p422); (try clear p423); (try clear p6); (try clear p64); (try clear q4); (try clear q42); (try clear q422); (try clear q423); obtain ⟨kq, x279_96, rfl, HA, HJ96, HB⟩ := hcut
                           cases kq with
                           | zero => exact absurd HA.out (by simp [laws_FnTopOfAll.j10])
                           | succ kj96 =>
                            have H := HA.out; clear HA; simp only [laws_FnTopOfAll.j10] at H; by_cases c101 : x279_96 = true
                            ·subst c101; (have H1 : (some true) = some r := by rw [if_pos rfl] at H; exact H); clear H; have H := H1; clear H1; obtain rfl := Option.some.inj H; go_wp2; go_ret; exact ⟨by first | rfl | (simp [errW_none, errW_some] <;> rfl) | (simp [*, errW_none, errW_some] <;> rfl), by repeat (first | (with_reducible first | exact HB.out | apply ae | apply ab | apply ac) | exact HB.out)⟩
                            ·replace c101 := Bool.eq_false_iff.mpr c101; subst c101; have H1 := H; rw [if_neg (show ¬ (false = true) by decide)] at H1; clear H; have H := H1; clear H1; replace H := bf.mp H; obtain ⟨⟨t430, t431⟩, A1020, H⟩ := H; (try dsimp only at H); have A102 := aa A1020; clear A1020; replace H := bf.mp H; obtain ⟨⟨t432, t433⟩, A1030, H⟩ := H; (try dsimp only at H); have A103 := aa A1030; clear A1030; by_cases c104 : t431 = t433
                             ·rw [if_pos c104] at H; have c104b0 : (t431 == t433) = true := beq_iff_eq.mpr c104; have c104b1 : (t431 != t433) = false := bne_eq_false_iff_eq.mpr c104; clear c104; by_cases c105 : t431 = 0
                              ·rw [if_pos c105] at H; have c105b0 : (t431 == 0) = true := beq_iff_eq.mpr c105; have c105b1 : (t431 != 0) = false := bne_eq_false_iff_eq.mpr c105; clear c105; replace H := bf.mp H; obtain ⟨⟨t436, t437⟩, A1060, H⟩ := H; (try dsimp only at H); have A106 := aa A1060; clear A1060; replace H := bf.mp H; obtain ⟨⟨t438, t439⟩, A1070, H⟩ := H; (try dsimp only at H); have A107 := aa A1070; clear A1070; by_cases c108 : t430 = t436
                               ·rw [if_pos c108] at H; have c108b0 : (t430 == t436) = true := beq_iff_eq.mpr c108; have c108b1 : (t430 != t436) = false := bne_eq_false_iff_eq.mpr c108; clear c108; by_cases c109 : t432 = t438
                                ·rw [if_pos c109] at H; have c109b0 : (t432 == t438) = true := beq_iff_eq.mpr c109; have c109b1 : (t432 != t438) = false := bne_eq_false_iff_eq.mpr c109; clear c109; by_cases c110 : a6 = 0
                                 ·rw [if_pos c110] at H; exact absurd H (by simp)
                                 ·rw [if_neg c110] at H; have c110b0 : (a6 == 0) = false := beq_eq_false_iff_ne.mpr c110; have c110b1 : (a6 != 0) = true := bne_iff_ne.mpr c110; by_cases c111 : t430 ≥ 1
                                  ·rw [if_pos c111] at H; have c111b0 : decide (1 ≤ t430) = true := decide_eq_true c111; clear c111; by_cases c112 : t430 ≤ 648000
                                   ·rw [if_pos c112] at H; have c112b0 : decide (t430 ≤ 648000) = true := decide_eq_true c112; clear c112; by_cases c113 : t432 ≥ t430
                                    ·rw [if_pos c113] at H; have c113b0 : decide (t430 ≤ t432) = true := decide_eq_true c113; clear c113; by_cases c114 : (wrap64 (t432 - t430)) < (wrap64 (Int.tdiv (1296000 : Int) a6))
                                     ·rw [if_pos c114] at H; have c114b0 : decide ((wrap64 (t432 - t430)) < (wrap64 (Int.tdiv (1296000 : Int) a6))) = true := decide_eq_true c114; clear c114; by_cases c115 : (wrap64 (Int.tdiv (1296000 : Int) a6)) = 0
                                      ·rw [if_pos c115] at H; exact absurd H (by simp)
                                      ·rw [if_neg c115] at H; have c115b0 : ((wrap64 (Int.tdiv (1296000 : Int) a6)) == 0) = false := beq_eq_false_iff_ne.mpr c115; have c115b1 : ((wrap64 (Int.tdiv (1296000 : Int) a6)) != 0) = true := bne_iff_ne.mpr c115; obtain rfl := Option.some.inj H
                                       go_wp2_with (first | ((with_reducible refine gate_callee (f := 18) rfl ?_); refine goesL_ (some 283) rfl rfl Tryz.func18 (by kernel_rfl) rfl #[.int .i64 a4, .int .i64 a5] rfl (by (try simp only [b3, b4, b5]); first | done | rfl | (simp only [b0, b2]; rfl)) ?_; (with_reducible refine (impl_SettingHour.calls kj96 a4 a5 t430 t431 _ A102.out).mono ?_); rintro e w116 ⟨rfl, hb⟩; refine ⟨_, rfl, ?_⟩; have n0_ := aa (af (by repeat (first | (with_reducible first | exact HB.out | apply ae | apply ab | apply ac) | exact HB.out)) hb); clear HB; have HB := n0_; clear n0_; (try clear hb); (try clear hb2); (try clear hk); (try clear hi)) | ((with_reducible refine gate_callee (f := 19) rfl ?_); refine goesL_ (some 290) rfl rfl Tryz.func19 (by kernel_rfl) rfl #[.int .i64 a4, .int .i64 a5, .int .i64 a6] rfl (by (try simp only [b3, b4, b5]); first | done | rfl | (simp only [b0, b2]; rfl)) ?_; (with_reducible refine (impl_SettingByTurning.calls kj96 a4 a5 a6 t432 t433 _ A103.out).mono ?_); rintro e w117 ⟨rfl, hb⟩; refine ⟨_, rfl, ?_⟩; have n0_ := aa (af (by repeat (first | (with_reducible first | exact HB.out | apply ae | apply ab | apply ac) | exact HB.out)) hb); clear HB; have HB := n0_; clear n0_; (try clear hb); (try clear hb2); (try clear hk); (try clear hi)) | ((with_reducible refine gate_callee (f := 21) rfl ?_); refine goesL_ (some 322) rfl rfl Tryz.func21 (by kernel_rfl) rfl #[.int .i64 a4, .int .i64 a5] rfl (by (try simp only [b3, b4, b5]); first | done | rfl | (simp only [b0, b2]; rfl)) ?_; (with_reducible refine (spec_SettingHour.calls kj96 a4 a5 t436 t437 _ A106.out).mono ?_); rintro e w118 ⟨rfl, hb⟩; refine ⟨_, rfl, ?_⟩; have n0_ := aa (af (by repeat (first | (with_reducible first | exact HB.out | apply ae | apply ab | apply ac) | exact HB.out)) hb); clear HB; have HB := n0_; clear n0_; (try clear hb); (try clear hb2); (try clear hk); (try clear hi)) | ((with_reducible refine gate_callee (f := 22) rfl ?_); refine goesL_ (some 329) rfl rfl Tryz.func22 (by kernel_rfl) rfl #[.int .i64 a4, .int .i64 a5, .int .i64 a6] rfl (by (try simp only [b3, b4, b5]); first | done | rfl | (simp only [b0, b2]; rfl)) ?_; (with_reducible refine (spec_SettingByTurning.calls kj96 a4 a5 a6 t438 t439 _ A107.out).mono ?_); rintro e w119 ⟨rfl, hb⟩; refine ⟨_, rfl, ?_⟩; have n0_ := aa (af (by repeat (first | (with_reducible first | exact HB.out | apply ae | apply ab | apply ac) | exact HB.out)) hb); clear HB; have HB := n0_; clear n0_; (try clear hb); (try clear hb2); (try clear hk); (try clear hi)))
                                       go_ret; exact ⟨by first | rfl | (simp [errW_none, errW_some] <;> rfl) | (simp [*, errW_none, errW_some] <;> rfl), by repeat (first | (with_reducible first | exact HB.out | apply ae | apply ab | apply ac) | exact HB.out)⟩
                                     ·rw [if_neg c114] at H; exact absurd H (by simp)
                                    ·rw [if_neg c113] at H; exact absurd H (by simp)
                                   ·rw [if_neg c112] at H; exact absurd H (by simp)
                                  ·rw [if_neg c111] at H; exact absurd H (by simp)
                                ·rw [if_neg c109] at H; exact absurd H (by simp)
                               ·rw [if_neg c108] at H; exact absurd H (by simp)
                              ·rw [if_neg c105] at H; have c105b0 : (t431 == 0) = false := beq_eq_false_iff_ne.mpr c105; have c105b1 : (t431 != 0) = true := bne_iff_ne.mpr c105; replace H := bf.mp H; obtain ⟨⟨t434, t435⟩, A1200, H⟩ := H; (try dsimp only at H); have A120 := aa A1200; clear A1200; by_cases c121 : t435 = 0
                               ·rw [if_pos c121] at H; have c121b0 : (t435 == 0) = true := beq_iff_eq.mpr c121; have c121b1 : (t435 != 0) = false := bne_eq_false_iff_eq.mpr c121; clear c121; by_cases c122 : (t434 == (t431 == 3)) = true
                                ·rw [if_pos c122] at H; have c122b0 : (t434 == (t431 == 3)) = true := c122; (try (have c122b1 : decide (t434 = (t431 == 3)) = true := by simpa using c122)); (try (have c122b2 : (t434 == (t431 == 3)) = true := by simpa using c122)); clear c122; by_cases c123 : t434 = true
                                 ·subst c123; (have H1 : (some true) = some r := by rw [if_pos rfl] at H; exact H); clear H; have H := H1; clear H1; obtain rfl := Option.some.inj H
                                  go_wp2_with (first | ((with_reducible refine gate_callee (f := 18) rfl ?_); refine goesL_ (some 283) rfl rfl Tryz.func18 (by kernel_rfl) rfl #[.int .i64 a4, .int .i64 a5] rfl (by (try simp only [b3, b4, b5]); first | done | rfl | (simp only [b0, b2]; rfl)) ?_; (with_reducible refine (impl_SettingHour.calls kj96 a4 a5 t430 t431 _ A102.out).mono ?_); rintro e w124 ⟨rfl, hb⟩; refine ⟨_, rfl, ?_⟩; have n0_ := aa (af (by repeat (first | (with_reducible first | exact HB.out | apply ae | apply ab | apply ac) | exact HB.out)) hb); clear HB; have HB := n0_; clear n0_; (try clear hb); (try clear hb2); (try clear hk); (try clear hi)) | ((with_reducible refine gate_callee (f := 19) rfl ?_); refine goesL_ (some 290) rfl rfl Tryz.func19 (by kernel_rfl) rfl #[.int .i64 a4, .int .i64 a5, .int .i64 a6] rfl (by (try simp only [b3, b4, b5]); first | done | rfl | (simp only [b0, b2]; rfl)) ?_; (with_reducible refine (impl_SettingByTurning.calls kj96 a4 a5 a6 t432 t433 _ A103.out).mono ?_); rintro e w125 ⟨rfl, hb⟩; refine ⟨_, rfl, ?_⟩; have n0_ := aa (af (by repeat (first | (with_reducible first | exact HB.out | apply ae | apply ab | apply ac) | exact HB.out)) hb); clear HB; have HB := n0_; clear n0_; (try clear hb); (try clear hb2); (try clear hk); (try clear hi)) | ((with_reducible refine gate_callee (f := 20) rfl ?_); refine goesL_ (some 301) rfl rfl Tryz.func20 (by kernel_rfl) rfl #[.int .i64 a4, .int .i64 a5, .int .i64 0] rfl (by (try simp only [b3, b4, b5]); first | done | rfl | (simp only [b0, b2]; rfl)) ?_; (with_reducible refine (spec_IsUp.calls kj96 a4 a5 0 true t435 _ A120.out).mono ?_); rintro e w126 ⟨rfl, hb⟩; refine ⟨_, rfl, ?_⟩; have n0_ := aa (af (by repeat (first | (with_reducible first | exact HB.out | apply ae | apply ab | apply ac) | exact HB.out)) hb); clear HB; have HB := n0_; clear n0_; (try clear hb); (try clear hb2); (try clear hk); (try clear hi)))
                                  go_ret; exact ⟨by first | rfl | (simp [errW_none, errW_some] <;> rfl) | (simp [*, errW_none, errW_some] <;> rfl), by repeat (first | (with_reducible first | exact HB.out | apply ae | apply ab | apply ac) | exact HB.out)⟩
                                 ·replace c123 := Bool.eq_false_iff.mpr c123; subst c123; have H1 := H; rw [if_neg (show ¬ (false = true) by decide)] at H1; clear H; have H := H1; clear H1; obtain rfl := Option.some.inj H
                                  go_wp2_with (first | ((with_reducible refine gate_callee (f := 18) rfl ?_); refine goesL_ (some 283) rfl rfl Tryz.func18 (by kernel_rfl) rfl #[.int .i64 a4, .int .i64 a5] rfl (by (try simp only [b3, b4, b5]); first | done | rfl | (simp only [b0, b2]; rfl)) ?_; (with_reducible refine (impl_SettingHour.calls kj96 a4 a5 t430 t431 _ A102.out).mono ?_); rintro e w127 ⟨rfl, hb⟩; refine ⟨_, rfl, ?_⟩; have n0_ := aa (af (by repeat (first | (with_reducible first | exact HB.out | apply ae | apply ab | apply ac) | exact HB.out)) hb); clear HB; have HB := n0_; clear n0_; (try clear hb); (try clear hb2); (try clear hk); (try clear hi)) | ((with_reducible refine gate_callee (f := 19) rfl ?_); refine goesL_ (some 290) rfl rfl Tryz.func19 (by kernel_rfl) rfl #[.int .i64 a4, .int .i64 a5, .int .i64 a6] rfl (by (try simp only [b3, b4, b5]); first | done | rfl | (simp only [b0, b2]; rfl)) ?_; (with_reducible refine (impl_SettingByTurning.calls kj96 a4 a5 a6 t432 t433 _ A103.out).mono ?_); rintro e w128 ⟨rfl, hb⟩; refine ⟨_, rfl, ?_⟩; have n0_ := aa (af (by repeat (first | (with_reducible first | exact HB.out | apply ae | apply ab | apply ac) | exact HB.out)) hb); clear HB; have HB := n0_; clear n0_; (try clear hb); (try clear hb2); (try clear hk); (try clear hi)) | ((with_reducible refine gate_callee (f := 20) rfl ?_); refine goesL_ (some 301) rfl rfl Tryz.func20 (by kernel_rfl) rfl #[.int .i64 a4, .int .i64 a5, .int .i64 0] rfl (by (try simp only [b3, b4, b5]); first | done | rfl | (simp only [b0, b2]; rfl)) ?_; (with_reducible refine (spec_IsUp.calls kj96 a4 a5 0 false t435 _ A120.out).mono ?_); rintro e w129 ⟨rfl, hb⟩; refine ⟨_, rfl, ?_⟩; have n0_ := aa (af (by repeat (first | (with_reducible first | exact HB.out | apply ae | apply ab | apply ac) | exact HB.out)) hb); clear HB; have HB := n0_; clear n0_; (try clear hb); (try clear hb2); (try clear hk); (try clear hi)))
                                  go_ret; exact ⟨by first | rfl | (simp [errW_none, errW_some] <;> rfl) | (simp [*, errW_none, errW_some] <;> rfl), by repeat (first | (with_reducible first | exact HB.out | apply ae | apply ab | apply ac) | exact HB.out)⟩
                                ·rw [if_neg c122] at H; exact absurd H (by simp)
                               ·rw [if_neg c121] at H; exact absurd H (by simp)
                             ·rw [if_neg c104] at H; exact absurd H (by simp)
def laws_FnTopOfAll.Pure : Prop := ∀ (l0 : List (S71)) (a1 : Int) (a2 : Int) (l3 : List (S82)) (a4 : Int) (a5 : Int) (a6 : Int), l0.length ≤ maxLen → l0.length * 16 ≤ 140737488351232 → (∀ x ∈ l0, (Lit.int .i64 x.f0).wf = true ∧ (Lit.int .i64 x.f1).wf = true) → (Lit.int .i64 a1).wf = true → (Lit.int .i64 a2).wf = true → l3.length ≤ maxLen → l3.length * 16 ≤ 140737488351232 → (∀ x ∈ l3, (Lit.int .i64 x.f0).wf = true ∧ (Lit.int .i64 x.f1).wf = true) → (Lit.int .i64 a4).wf = true → (Lit.int .i64 a5).wf = true → (Lit.int .i64 a6).wf = true → ∃ k, laws_FnTopOfAll.f k l0 a1 a2 l3 a4 a5 a6 = some true
theorem laws_FnTopOfAll.walk (P : laws_FnTopOfAll.Pure) (a0 : Option Addr) (len0 cap0 : Nat) (l0 : List S71) (a1 : Int) (a2 : Int) (a3 : Option Addr) (len3 cap3 : Nat) (l3 : List S82) (a4 : Int) (a5 : Int) (a6 : Int) (w : World) (w0 : Kd.C k71 w a0 len0 l0 ∧ len0 ≤ cap0 ∧ len0 ≤ maxLen ∧ ∀ x ∈ l0, (Lit.int .i64 x.f0).wf = true ∧ (Lit.int .i64 x.f1).wf = true) (y0 : len0 * 16 ≤ 140737488351232) (w1 : (Lit.int .i64 a1).wf = true) (w2 : (Lit.int .i64 a2).wf = true) (w3 : Kd.C k82 w a3 len3 l3 ∧ len3 ≤ cap3 ∧ len3 ≤ maxLen ∧ ∀ x ∈ l3, (Lit.int .i64 x.f0).wf = true ∧ (Lit.int .i64 x.f1).wf = true) (y3 : len3 * 16 ≤ 140737488351232) (w4 : (Lit.int .i64 a4).wf = true) (w5 : (Lit.int .i64 a5).wf = true) (w6 : (Lit.int .i64 a6).wf = true) :
  Calls Tryz.prog 4 #[.slice a0 len0 cap0, .int .i64 a1, .int .i64 a2, .slice a3 len3 cap3, .int .i64 a4, .int .i64 a5, .int .i64 a6] w fun e w' => e = .returned (.bool true) ∧ Below w.heap.size w w' := by
 obtain ⟨hr0, hc0, hm0, hw0⟩ := w0; obtain rfl : l0.length = len0 := hr0.1; obtain ⟨hr3, hc3, hm3, hw3⟩ := w3; obtain rfl : l3.length = len3 := hr3.1; obtain ⟨k, h⟩ := P l0 a1 a2 l3 a4 a5 a6 hm0 y0 hw0 w1 w2 hm3 y3 hw3 w4 w5 w6; refine (laws_FnTopOfAll.calls k _ _ l0 a1 a2 _ _ l3 a4 a5 a6 true w hr0 hc0 hr3 hc3 h).mono ?_; rintro e w' ⟨rfl, hd⟩; exact ⟨rfl, hd⟩
end Go.Proofs.YtmgljagkmaoopaaGreat.QFnTopOfAll
