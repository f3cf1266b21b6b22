/- Walks of the Go functions that the law FnRepairs reaches: written by a program of this session. -/
import Derived.Test.YtfajacoagaamlaaQFnRepairsx0
import Derived.Test.YtfajacoagaamlaaQFnRepairsx1
import Derived.Test.YtfajacoagaamlaaQFnRepairsx2
import Derived.Test.YtfajacoagaamlaaQFnRepairsx3
import Derived.Test.YtfajacoagaamlaaQFnRepairsx4
import Derived.Test.YtfajacoagaamlaaQFnRepairsx5
import Derived.Test.YtfajacoagaamlaaQFnRepairsx6
import Derived.Test.YtfajacoagaamlaaQFnRepairsx7
import Derived.Test.YtfajacoagaamlaaQFnRepairsx8
import Derived.Test.YtfajacoagaamlaaQFnRepairsx9
namespace Go.Proofs.Ytfajacoagaamlaa.QFnRepairs
open Go.RowKit Go.Proofs.YtfajacoagaamlaaW.PrintWords Go.Proofs.YtfajacoagaamlaaW.PrintLast Go.Proofs.YtfajacoagaamlaaW.PrintMore
attribute [local go_sem] max2_int min2_int max_two min_two max_three min_three max_four min_four   -- for this text's walks alone
open Go.Proofs.YtfajacoagaamlaaW.PrintWords renaming below_alloc → ah, below_drew1 → ag, below_size → ar, below_step → ay, pw_below_drewN → ae
open Go.Proofs.YtfajacoagaamlaaW.PrintWords.Aside0 renaming mk → aa
open Go.Proofs.YtfajacoagaamlaaW.PrintWords.Kd renaming C_alloc → ak, C_below → bl, C_drew → am, C_drewN → al, R_alloc → ab, R_base → az, R_below → aq, R_drew → af, R_drewN → ac, R_elder' → aw, R_lower → bd, R_lt → bc, R_mono → an, R_new' → ba, R_reads' → ai, R_slice → ap, at_int → bj
open Go.World renaming drewN_drewN → aj
open Option renaming bind_eq_some_iff → bm
set_option linter.unusedVariables false
set_option linter.unusedSimpArgs false

attribute [local go_sem high] eqA64
/-! ### laws_FnRepairs: function 14 -/
mutual
def laws_FnRepairs.j0 : Nat → List Int → List (S64) → List Int → Int → List Int → List (S64) → Int → List (S64) → List Int → ByteArray → List Int → Bool → Bool → Option (Bool)
 | 0, _, _, _, _, _, _, _, _, _, _, _, _, _ => none
 | k + 1, x3, x4, x5, x6, x15, x17, x18, x19, x21, x22, x23, x24, x166 => if x166 = true then (none) else (if x22.toList = ([] : List UInt8) then (laws_FnRepairs.j1 k x3 x4 x5 x6 x15 x17 x18 x19 false) else (if x24 = true then ((laws_f6ints.f k x23 x21).bind fun t509 => (laws_FnRepairs.j1 k x3 x4 x5 x6 x15 x17 x18 x19 (!t509))) else (laws_FnRepairs.j1 k x3 x4 x5 x6 x15 x17 x18 x19 true)))
def laws_FnRepairs.j1 : Nat → List Int → List (S64) → List Int → Int → List Int → List (S64) → Int → List (S64) → Bool → Option (Bool)
 | 0, _, _, _, _, _, _, _, _, _ => none
 | k + 1, x3, x4, x5, x6, x15, x17, x18, x19, x178 => if x178 = true then (none) else (laws_FnRepairs.l0 k x3 x4 x5 x6 x15 x17 x18 x19 0)
def laws_FnRepairs.l0 : Nat → List Int → List (S64) → List Int → Int → List Int → List (S64) → Int → List (S64) → Int → Option (Bool)
 | 0, _, _, _, _, _, _, _, _, _ => none
 | k + 1, x3, x4, x5, x6, x15, x17, x18, x19, x30 => if x30 < (x19.length : Int) then (if 0 ≤ x30 then (if x30 < (x17.length : Int) then (if (!(((rd_T64 x17 x30).f0) == ((rd_T64 x19 x30).f0)) || (!(((rd_T64 x17 x30).f1) == ((rd_T64 x19 x30).f1)) || (!(((rd_T64 x17 x30).f2) == ((rd_T64 x19 x30).f2))))) = true then (none) else (laws_FnRepairs.l0 k x3 x4 x5 x6 x15 x17 x18 x19 (wrap64 (x30 + 1)))) else (none)) else (none)) else (if x18 = 0 then ((impl_ApplyRepairs.f k x15 x17).bind fun bt512 => ((impl_CountStates.f k bt512.1).bind fun bt516 => (if bt512.2 = 0 then (if bt516.2 = 0 then (if (bt516.1.length : Int) = 4 then (if 1 < (bt516.1.length : Int) then (if (rd bt516.1 1) = 0 then (laws_FnRepairs.j3 k x3 x4 x5 x6) else (none)) else (none)) else (none)) else (none)) else (none)))) else (laws_FnRepairs.j3 k x3 x4 x5 x6))
def laws_FnRepairs.j3 : Nat → List Int → List (S64) → List Int → Int → Option (Bool)
 | 0, _, _, _, _ => none
 | k + 1, x3, x4, x5, x6 => if x6 = 0 then ((impl_UndoRepairs.f k x5 x4).bind fun bt521 => (if bt521.2 = 0 then ((laws_f6ints.f k bt521.1 x3).bind fun t525 => (some t525)) else (none))) else (some true)
end
def laws_FnRepairs.f (k : Nat) (l0 : List Int) : Option (Bool) := (laws_f6big.f l0).bind fun t443 => (if t443 = true then (some true) else ((spec_DrawApplyRepairs.f k l0).bind fun bt444 => ((impl_ApplyRepairs.f k bt444.1 bt444.2).bind fun bt450 => ((spec_ApplyRepairs.f k bt444.1 bt444.2).bind fun bt454 => ((spec_DrawUndoRepairs.f k l0).bind fun bt458 => ((impl_UndoRepairs.f k bt458.1 bt458.2).bind fun bt464 => ((spec_UndoRepairs.f k bt458.1 bt458.2).bind fun bt468 => ((spec_DrawRepairsFor.f k l0).bind fun bt472 => ((impl_RepairsFor.f k bt472.1 bt472.2).bind fun bt478 => ((spec_RepairsFor.f k bt472.1 bt472.2).bind fun bt482 => ((spec_DrawStatesText.f k l0).bind fun t486 => ((impl_StatesText.f k t486).bind fun t489 => ((impl_ReadStates.f k t489).bind fun bt490 => ((spec_DrawReadStates.f k l0).bind fun t494 => ((impl_ReadStates.f k t494).bind fun bt495 => ((spec_ReadStates.f k t494).bind fun bt499 => (if bt450.2 = bt454.2 then ((laws_f6ints.f k bt450.1 bt454.1).bind fun t503 => (if t503 = true then (if bt464.2 = bt468.2 then ((laws_f6ints.f k bt464.1 bt468.1).bind fun t504 => (if t504 = true then (if bt478.2 = bt482.2 then (if (bt478.1.length : Int) = (bt482.1.length : Int) then ((spec_StatesText.f k t486).bind fun t505 => (if t489.toList = t505.toList then (if (bt495.2 != bt499.2) = true then (laws_FnRepairs.j0 k bt444.1 bt444.2 bt450.1 bt450.2 bt472.1 bt478.1 bt478.2 bt482.1 t486 t489 bt490.1 bt490.2 true) else ((laws_f6ints.f k bt495.1 bt499.1).bind fun t506 => (if t506 = true then ((impl_ValidStates.f bt444.1).bind fun t507 => ((spec_ValidStates.f k bt444.1).bind fun t508 => (laws_FnRepairs.j0 k bt444.1 bt444.2 bt450.1 bt450.2 bt472.1 bt478.1 bt478.2 bt482.1 t486 t489 bt490.1 bt490.2 (t507 != t508)))) else (laws_FnRepairs.j0 k bt444.1 bt444.2 bt450.1 bt450.2 bt472.1 bt478.1 bt478.2 bt482.1 t486 t489 bt490.1 bt490.2 true)))) else (laws_FnRepairs.j0 k bt444.1 bt444.2 bt450.1 bt450.2 bt472.1 bt478.1 bt478.2 bt482.1 t486 t489 bt490.1 bt490.2 true))) else (laws_FnRepairs.j0 k bt444.1 bt444.2 bt450.1 bt450.2 bt472.1 bt478.1 bt478.2 bt482.1 t486 t489 bt490.1 bt490.2 true)) else (laws_FnRepairs.j0 k bt444.1 bt444.2 bt450.1 bt450.2 bt472.1 bt478.1 bt478.2 bt482.1 t486 t489 bt490.1 bt490.2 true)) else (laws_FnRepairs.j0 k bt444.1 bt444.2 bt450.1 bt450.2 bt472.1 bt478.1 bt478.2 bt482.1 t486 t489 bt490.1 bt490.2 true))) else (laws_FnRepairs.j0 k bt444.1 bt444.2 bt450.1 bt450.2 bt472.1 bt478.1 bt478.2 bt482.1 t486 t489 bt490.1 bt490.2 true)) else (laws_FnRepairs.j0 k bt444.1 bt444.2 bt450.1 bt450.2 bt472.1 bt478.1 bt478.2 bt482.1 t486 t489 bt490.1 bt490.2 true))) else (laws_FnRepairs.j0 k bt444.1 bt444.2 bt450.1 bt450.2 bt472.1 bt478.1 bt478.2 bt482.1 t486 t489 bt490.1 bt490.2 true))))))))))))))))))
theorem laws_FnRepairs.mono_l : ∀ k, (∀ y0 y1 y2 y3 y4 y5 y6 y7 y8 y9 y10 y11 y12, LeO (laws_FnRepairs.j0 k y0 y1 y2 y3 y4 y5 y6 y7 y8 y9 y10 y11 y12) (laws_FnRepairs.j0 (k + 1) y0 y1 y2 y3 y4 y5 y6 y7 y8 y9 y10 y11 y12)) ∧ (∀ y0 y1 y2 y3 y4 y5 y6 y7 y8, LeO (laws_FnRepairs.j1 k y0 y1 y2 y3 y4 y5 y6 y7 y8) (laws_FnRepairs.j1 (k + 1) y0 y1 y2 y3 y4 y5 y6 y7 y8)) ∧ (∀ y0 y1 y2 y3 y4 y5 y6 y7 y8, LeO (laws_FnRepairs.l0 k y0 y1 y2 y3 y4 y5 y6 y7 y8) (laws_FnRepairs.l0 (k + 1) y0 y1 y2 y3 y4 y5 y6 y7 y8)) ∧ (∀ y0 y1 y2 y3, LeO (laws_FnRepairs.j3 k y0 y1 y2 y3) (laws_FnRepairs.j3 (k + 1) y0 y1 y2 y3))
 | 0 => ⟨fun _ _ _ _ _ _ _ _ _ _ _ _ _ r h => by simp [laws_FnRepairs.j0] at h, fun _ _ _ _ _ _ _ _ _ r h => by simp [laws_FnRepairs.j1] at h, fun _ _ _ _ _ _ _ _ _ r h => by simp [laws_FnRepairs.l0] at h, fun _ _ _ _ r h => by simp [laws_FnRepairs.j3] at h⟩
 | k + 1 => by
  obtain ⟨ih0, ih1, ih2, ih3⟩ := laws_FnRepairs.mono_l k
  refine ⟨?_, ?_, ?_, ?_⟩
  ·intro y0 y1 y2 y3 y4 y5 y6 y7 y8 y9 y10 y11 y12
   unfold laws_FnRepairs.j0
   repeat' first
   | (with_reducible exact ih0 _ _ _ _ _ _ _ _ _ _ _ _ _)
   | (with_reducible exact ih1 _ _ _ _ _ _ _ _ _)
   | (with_reducible exact ih2 _ _ _ _ _ _ _ _ _)
   | (with_reducible exact ih3 _ _ _ _)
   | (with_reducible exact impl_ApplyRepairs.mono _ _ _)
   | (with_reducible exact impl_CountStates.mono _ _)
   | (with_reducible exact impl_ReadStates.mono _ _)
   | (with_reducible exact impl_RepairsFor.mono _ _ _)
   | (with_reducible exact impl_StatesText.mono _ _)
   | (with_reducible exact impl_UndoRepairs.mono _ _ _)
   | (with_reducible exact laws_f6ints.mono _ _ _)
   | (with_reducible exact spec_ApplyRepairs.mono _ _ _)
   | (with_reducible exact spec_DrawApplyRepairs.mono _ _)
   | (with_reducible exact spec_DrawReadStates.mono _ _)
   | (with_reducible exact spec_DrawRepairsFor.mono _ _)
   | (with_reducible exact spec_DrawStatesText.mono _ _)
   | (with_reducible exact spec_DrawUndoRepairs.mono _ _)
   | (with_reducible exact spec_ReadStates.mono _ _)
   | (with_reducible exact spec_RepairsFor.mono _ _ _)
   | (with_reducible exact spec_StatesText.mono _ _)
   | (with_reducible exact spec_UndoRepairs.mono _ _ _)
   | (with_reducible exact spec_ValidStates.mono _ _)
   | (with_reducible exact LeO.refl _)
   | (with_reducible exact LeO.none _)
   | (with_reducible refine LeO.ite ?_ ?_)
   | (with_reducible refine LeO.bind ?_ (fun _ => ?_))
   | exact ih0 _ _ _ _ _ _ _ _ _ _ _ _ _
   | exact ih1 _ _ _ _ _ _ _ _ _
   | exact ih2 _ _ _ _ _ _ _ _ _
   | exact ih3 _ _ _ _
   | exact impl_ApplyRepairs.mono _ _ _
   | exact impl_CountStates.mono _ _
   | exact impl_ReadStates.mono _ _
   | exact impl_RepairsFor.mono _ _ _
   | exact impl_StatesText.mono _ _
   | exact impl_UndoRepairs.mono _ _ _
   | exact laws_f6ints.mono _ _ _
   | exact spec_ApplyRepairs.mono _ _ _
   | exact spec_DrawApplyRepairs.mono _ _
   | exact spec_DrawReadStates.mono _ _
   | exact spec_DrawRepairsFor.mono _ _
   | exact spec_DrawStatesText.mono _ _
   | exact spec_DrawUndoRepairs.mono _ _
   | exact spec_ReadStates.mono _ _
   | exact spec_RepairsFor.mono _ _ _
   | exact spec_StatesText.mono _ _
   | exact spec_UndoRepairs.mono _ _ _
   | exact spec_ValidStates.mono _ _
   | exact LeO.none _
   | refine LeO.ite ?_ ?_
   | refine LeO.bind ?_ (fun _ => ?_)
  ·intro y0 y1 y2 y3 y4 y5 y6 y7 y8
   unfold laws_FnRepairs.j1
   repeat' first
   | (with_reducible exact ih0 _ _ _ _ _ _ _ _ _ _ _ _ _)
   | (with_reducible exact ih1 _ _ _ _ _ _ _ _ _)
   | (with_reducible exact ih2 _ _ _ _ _ _ _ _ _)
   | (with_reducible exact ih3 _ _ _ _)
   | (with_reducible exact impl_ApplyRepairs.mono _ _ _)
   | (with_reducible exact impl_CountStates.mono _ _)
   | (with_reducible exact impl_ReadStates.mono _ _)
   | (with_reducible exact impl_RepairsFor.mono _ _ _)
   | (with_reducible exact impl_StatesText.mono _ _)
   | (with_reducible exact impl_UndoRepairs.mono _ _ _)
   | (with_reducible exact laws_f6ints.mono _ _ _)
   | (with_reducible exact spec_ApplyRepairs.mono _ _ _)
   | (with_reducible exact spec_DrawApplyRepairs.mono _ _)
   | (with_reducible exact spec_DrawReadStates.mono _ _)
   | (with_reducible exact spec_DrawRepairsFor.mono _ _)
   | (with_reducible exact spec_DrawStatesText.mono _ _)
   | (with_reducible exact spec_DrawUndoRepairs.mono _ _)
   | (with_reducible exact spec_ReadStates.mono _ _)
   | (with_reducible exact spec_RepairsFor.mono _ _ _)
   | (with_reducible exact spec_StatesText.mono _ _)
   | (with_reducible exact spec_UndoRepairs.mono _ _ _)
   | (with_reducible exact spec_ValidStates.mono _ _)
   | (with_reducible exact LeO.refl _)
   | (with_reducible exact LeO.none _)
   | (with_reducible refine LeO.ite ?_ ?_)
   | (with_reducible refine LeO.bind ?_ (fun _ => ?_))
   | exact ih0 _ _ _ _ _ _ _ _ _ _ _ _ _
   | exact ih1 _ _ _ _ _ _ _ _ _
   | exact ih2 _ _ _ _ _ _ _ _ _
   | exact ih3 _ _ _ _
   | exact impl_ApplyRepairs.mono _ _ _
   | exact impl_CountStates.mono _ _
   | exact impl_ReadStates.mono _ _
   | exact impl_RepairsFor.mono _ _ _
   | exact impl_StatesText.mono _ _
   | exact impl_UndoRepairs.mono _ _ _
   | exact laws_f6ints.mono _ _ _
   | exact spec_ApplyRepairs.mono _ _ _
   | exact spec_DrawApplyRepairs.mono _ _
   | exact spec_DrawReadStates.mono _ _
   | exact spec_DrawRepairsFor.mono _ _
   | exact spec_DrawStatesText.mono _ _
   | exact spec_DrawUndoRepairs.mono _ _
   | exact spec_ReadStates.mono _ _
   | exact spec_RepairsFor.mono _ _ _
   | exact spec_StatesText.mono _ _
   | exact spec_UndoRepairs.mono _ _ _
   | exact spec_ValidStates.mono _ _
   | exact LeO.none _
   | refine LeO.ite ?_ ?_
   | refine LeO.bind ?_ (fun _ => ?_)
  ·intro y0 y1 y2 y3 y4 y5 y6 y7 y8
   unfold laws_FnRepairs.l0
   repeat' first
   | (with_reducible exact ih0 _ _ _ _ _ _ _ _ _ _ _ _ _)
   | (with_reducible exact ih1 _ _ _ _ _ _ _ _ _)
   | (with_reducible exact ih2 _ _ _ _ _ _ _ _ _)
   | (with_reducible exact ih3 _ _ _ _)
   | (with_reducible exact impl_ApplyRepairs.mono _ _ _)
   | (with_reducible exact impl_CountStates.mono _ _)
   | (with_reducible exact impl_ReadStates.mono _ _)
   | (with_reducible exact impl_RepairsFor.mono _ _ _)
   | (with_reducible exact impl_StatesText.mono _ _)
   | (with_reducible exact impl_UndoRepairs.mono _ _ _)
   | (with_reducible exact laws_f6ints.mono _ _ _)
   | (with_reducible exact spec_ApplyRepairs.mono _ _ _)
   | (with_reducible exact spec_DrawApplyRepairs.mono _ _)
   | (with_reducible exact spec_DrawReadStates.mono _ _)
   | (with_reducible exact spec_DrawRepairsFor.mono _ _)
   | (with_reducible exact spec_DrawStatesText.mono _ _)
   | (with_reducible exact spec_DrawUndoRepairs.mono _ _)
   | (with_reducible exact spec_ReadStates.mono _ _)
   | (with_reducible exact spec_RepairsFor.mono _ _ _)
   | (with_reducible exact spec_StatesText.mono _ _)
   | (with_reducible exact spec_UndoRepairs.mono _ _ _)
   | (with_reducible exact spec_ValidStates.mono _ _)
   | (with_reducible exact LeO.refl _)
   | (with_reducible exact LeO.none _)
   | (with_reducible refine LeO.ite ?_ ?_)
   | (with_reducible refine LeO.bind ?_ (fun _ => ?_))
   | exact ih0 _ _ _ _ _ _ _ _ _ _ _ _ _
   | exact ih1 _ _ _ _ _ _ _ _ _
   | exact ih2 _ _ _ _ _ _ _ _ _
   | exact ih3 _ _ _ _
   | exact impl_ApplyRepairs.mono _ _ _
   | exact impl_CountStates.mono _ _
   | exact impl_ReadStates.mono _ _
   | exact impl_RepairsFor.mono _ _ _
   | exact impl_StatesText.mono _ _
   | exact impl_UndoRepairs.mono _ _ _
   | exact laws_f6ints.mono _ _ _
   | exact spec_ApplyRepairs.mono _ _ _
   | exact spec_DrawApplyRepairs.mono _ _
   | exact spec_DrawReadStates.mono _ _
   | exact spec_DrawRepairsFor.mono _ _
   | exact spec_DrawStatesText.mono _ _
   | exact spec_DrawUndoRepairs.mono _ _
   | exact spec_ReadStates.mono _ _
   | exact spec_RepairsFor.mono _ _ _
   | exact spec_StatesText.mono _ _
   | exact spec_UndoRepairs.mono _ _ _
   | exact spec_ValidStates.mono _ _
   | exact LeO.none _
   | refine LeO.ite ?_ ?_
   | refine LeO.bind ?_ (fun _ => ?_)
  ·intro y0 y1 y2 y3
   unfold laws_FnRepairs.j3
   repeat' first
   | (with_reducible exact ih0 _ _ _ _ _ _ _ _ _ _ _ _ _)
   | (with_reducible exact ih1 _ _ _ _ _ _ _ _ _)
   | (with_reducible exact ih2 _ _ _ _ _ _ _ _ _)
   | (with_reducible exact ih3 _ _ _ _)
   | (with_reducible exact impl_ApplyRepairs.mono _ _ _)
   | (with_reducible exact impl_CountStates.mono _ _)
   | (with_reducible exact impl_ReadStates.mono _ _)
   | (with_reducible exact impl_RepairsFor.mono _ _ _)
   | (with_reducible exact impl_StatesText.mono _ _)
   | (with_reducible exact impl_UndoRepairs.mono _ _ _)
   | (with_reducible exact laws_f6ints.mono _ _ _)
   | (with_reducible exact spec_ApplyRepairs.mono _ _ _)
   | (with_reducible exact spec_DrawApplyRepairs.mono _ _)
   | (with_reducible exact spec_DrawReadStates.mono _ _)
   | (with_reducible exact spec_DrawRepairsFor.mono _ _)
   | (with_reducible exact spec_DrawStatesText.mono _ _)
   | (with_reducible exact spec_DrawUndoRepairs.mono _ _)
   | (with_reducible exact spec_ReadStates.mono _ _)
   | (with_reducible exact spec_RepairsFor.mono _ _ _)
   | (with_reducible exact spec_StatesText.mono _ _)
   | (with_reducible exact spec_UndoRepairs.mono _ _ _)
   | (with_reducible exact spec_ValidStates.mono _ _)
   | (with_reducible exact LeO.refl _)
   | (with_reducible exact LeO.none _)
   | (with_reducible refine LeO.ite ?_ ?_)
   | (with_reducible refine LeO.bind ?_ (fun _ => ?_))
   | exact ih0 _ _ _ _ _ _ _ _ _ _ _ _ _
   | exact ih1 _ _ _ _ _ _ _ _ _
   | exact ih2 _ _ _ _ _ _ _ _ _
   | exact ih3 _ _ _ _
   | exact impl_ApplyRepairs.mono _ _ _
   | exact impl_CountStates.mono _ _
   | exact impl_ReadStates.mono _ _
   | exact impl_RepairsFor.mono _ _ _
   | exact impl_StatesText.mono _ _
   | exact impl_UndoRepairs.mono _ _ _
   | exact laws_f6ints.mono _ _ _
   | exact spec_ApplyRepairs.mono _ _ _
   | exact spec_DrawApplyRepairs.mono _ _
   | exact spec_DrawReadStates.mono _ _
   | exact spec_DrawRepairsFor.mono _ _
   | exact spec_DrawStatesText.mono _ _
   | exact spec_DrawUndoRepairs.mono _ _
   | exact spec_ReadStates.mono _ _
   | exact spec_RepairsFor.mono _ _ _
   | exact spec_StatesText.mono _ _
   | exact spec_UndoRepairs.mono _ _ _
   | exact spec_ValidStates.mono _ _
   | exact LeO.none _
   | refine LeO.ite ?_ ?_
   | refine LeO.bind ?_ (fun _ => ?_)
theorem laws_FnRepairs.mono : ∀ a0 k, LeO (laws_FnRepairs.f k a0) (laws_FnRepairs.f (k + 1) a0) := by
 intro a0 k
 obtain ⟨ih0, ih1, ih2, ih3⟩ := laws_FnRepairs.mono_l k
 unfold laws_FnRepairs.f
 repeat' first
   | (with_reducible exact ih0 _ _ _ _ _ _ _ _ _ _ _ _ _)
   | (with_reducible exact ih1 _ _ _ _ _ _ _ _ _)
   | (with_reducible exact ih2 _ _ _ _ _ _ _ _ _)
   | (with_reducible exact ih3 _ _ _ _)
   | (with_reducible exact impl_ApplyRepairs.mono _ _ _)
   | (with_reducible exact impl_CountStates.mono _ _)
   | (with_reducible exact impl_ReadStates.mono _ _)
   | (with_reducible exact impl_RepairsFor.mono _ _ _)
   | (with_reducible exact impl_StatesText.mono _ _)
   | (with_reducible exact impl_UndoRepairs.mono _ _ _)
   | (with_reducible exact laws_f6ints.mono _ _ _)
   | (with_reducible exact spec_ApplyRepairs.mono _ _ _)
   | (with_reducible exact spec_DrawApplyRepairs.mono _ _)
   | (with_reducible exact spec_DrawReadStates.mono _ _)
   | (with_reducible exact spec_DrawRepairsFor.mono _ _)
   | (with_reducible exact spec_DrawStatesText.mono _ _)
   | (with_reducible exact spec_DrawUndoRepairs.mono _ _)
   | (with_reducible exact spec_ReadStates.mono _ _)
   | (with_reducible exact spec_RepairsFor.mono _ _ _)
   | (with_reducible exact spec_StatesText.mono _ _)
   | (with_reducible exact spec_UndoRepairs.mono _ _ _)
   | (with_reducible exact spec_ValidStates.mono _ _)
   | (with_reducible exact LeO.refl _)
   | (with_reducible exact LeO.none _)
   | (with_reducible refine LeO.ite ?_ ?_)
   | (with_reducible refine LeO.bind ?_ (fun _ => ?_))
   | exact ih0 _ _ _ _ _ _ _ _ _ _ _ _ _
   | exact ih1 _ _ _ _ _ _ _ _ _
   | exact ih2 _ _ _ _ _ _ _ _ _
   | exact ih3 _ _ _ _
   | exact impl_ApplyRepairs.mono _ _ _
   | exact impl_CountStates.mono _ _
   | exact impl_ReadStates.mono _ _
   | exact impl_RepairsFor.mono _ _ _
   | exact impl_StatesText.mono _ _
   | exact impl_UndoRepairs.mono _ _ _
   | exact laws_f6ints.mono _ _ _
   | exact spec_ApplyRepairs.mono _ _ _
   | exact spec_DrawApplyRepairs.mono _ _
   | exact spec_DrawReadStates.mono _ _
   | exact spec_DrawRepairsFor.mono _ _
   | exact spec_DrawStatesText.mono _ _
   | exact spec_DrawUndoRepairs.mono _ _
   | exact spec_ReadStates.mono _ _
   | exact spec_RepairsFor.mono _ _ _
   | exact spec_StatesText.mono _ _
   | exact spec_UndoRepairs.mono _ _ _
   | exact spec_ValidStates.mono _ _
   | exact LeO.none _
   | refine LeO.ite ?_ ?_
   | refine LeO.bind ?_ (fun _ => ?_)
set_option maxHeartbeats 8000000 in
set_option maxRecDepth 100000 in
theorem laws_FnRepairs.calls (k : Nat) (A0 : Option Addr) (c0 : Nat) (l0 : List Int) (r : Bool) (w : World) (hr0 : Kd.C (Kd.int .u8) w A0 l0.length l0) (hc0 : l0.length ≤ c0) (h : laws_FnRepairs.f k l0 = some r) :
  Calls Try.prog 14 #[.slice A0 l0.length c0] w fun e w' => e = .returned (.bool r) ∧ Below w.heap.size w w' := by
 have hu64 := Try.underlying64
 have HR0 := aa hr0
 have HC0 := aa hc0
 clear hr0 hc0
 have HB := aa (Below.refl w.heap.size w)
 have H : ((laws_f6big.f l0).bind fun t443 => (if t443 = true then (some true) else ((spec_DrawApplyRepairs.f k l0).bind fun bt444 => ((impl_ApplyRepairs.f k bt444.1 bt444.2).bind fun bt450 => ((spec_ApplyRepairs.f k bt444.1 bt444.2).bind fun bt454 => ((spec_DrawUndoRepairs.f k l0).bind fun bt458 => ((impl_UndoRepairs.f k bt458.1 bt458.2).bind fun bt464 => ((spec_UndoRepairs.f k bt458.1 bt458.2).bind fun bt468 => ((spec_DrawRepairsFor.f k l0).bind fun bt472 => ((impl_RepairsFor.f k bt472.1 bt472.2).bind fun bt478 => ((spec_RepairsFor.f k bt472.1 bt472.2).bind fun bt482 => ((spec_DrawStatesText.f k l0).bind fun t486 => ((impl_StatesText.f k t486).bind fun t489 => ((impl_ReadStates.f k t489).bind fun bt490 => ((spec_DrawReadStates.f k l0).bind fun t494 => ((impl_ReadStates.f k t494).bind fun bt495 => ((spec_ReadStates.f k t494).bind fun bt499 => (if bt450.2 = bt454.2 then ((laws_f6ints.f k bt450.1 bt454.1).bind fun t503 => (if t503 = true then (if bt464.2 = bt468.2 then ((laws_f6ints.f k bt464.1 bt468.1).bind fun t504 => (if t504 = true then (if bt478.2 = bt482.2 then (if (bt478.1.length : Int) = (bt482.1.length : Int) then ((spec_StatesText.f k t486).bind fun t505 => (if t489.toList = t505.toList then (if (bt495.2 != bt499.2) = true then (laws_FnRepairs.j0 k bt444.1 bt444.2 bt450.1 bt450.2 bt472.1 bt478.1 bt478.2 bt482.1 t486 t489 bt490.1 bt490.2 true) else ((laws_f6ints.f k bt495.1 bt499.1).bind fun t506 => (if t506 = true then ((impl_ValidStates.f bt444.1).bind fun t507 => ((spec_ValidStates.f k bt444.1).bind fun t508 => (laws_FnRepairs.j0 k bt444.1 bt444.2 bt450.1 bt450.2 bt472.1 bt478.1 bt478.2 bt482.1 t486 t489 bt490.1 bt490.2 (t507 != t508)))) else (laws_FnRepairs.j0 k bt444.1 bt444.2 bt450.1 bt450.2 bt472.1 bt478.1 bt478.2 bt482.1 t486 t489 bt490.1 bt490.2 true)))) else (laws_FnRepairs.j0 k bt444.1 bt444.2 bt450.1 bt450.2 bt472.1 bt478.1 bt478.2 bt482.1 t486 t489 bt490.1 bt490.2 true))) else (laws_FnRepairs.j0 k bt444.1 bt444.2 bt450.1 bt450.2 bt472.1 bt478.1 bt478.2 bt482.1 t486 t489 bt490.1 bt490.2 true)) else (laws_FnRepairs.j0 k bt444.1 bt444.2 bt450.1 bt450.2 bt472.1 bt478.1 bt478.2 bt482.1 t486 t489 bt490.1 bt490.2 true)) else (laws_FnRepairs.j0 k bt444.1 bt444.2 bt450.1 bt450.2 bt472.1 bt478.1 bt478.2 bt482.1 t486 t489 bt490.1 bt490.2 true))) else (laws_FnRepairs.j0 k bt444.1 bt444.2 bt450.1 bt450.2 bt472.1 bt478.1 bt478.2 bt482.1 t486 t489 bt490.1 bt490.2 true)) else (laws_FnRepairs.j0 k bt444.1 bt444.2 bt450.1 bt450.2 bt472.1 bt478.1 bt478.2 bt482.1 t486 t489 bt490.1 bt490.2 true))) else (laws_FnRepairs.j0 k bt444.1 bt444.2 bt450.1 bt450.2 bt472.1 bt478.1 bt478.2 bt482.1 t486 t489 bt490.1 bt490.2 true))))))))))))))))))) = some r := h
 clear h
 replace H := bm.mp H
 obtain ⟨t443, A20, H⟩ := H
 (try dsimp only at H)
 have A2 := aa A20
 clear A20
 by_cases c3 : t443 = true
 ·subst c3
  have H1 : (some true) = some r := by rw [if_pos rfl] at H; exact H
  clear H
  have H := H1
  clear H1
  obtain rfl := Option.some.inj H
  go_enter Try.func14, Try.ntmps14
  go_wp2_with (first | (go_at_call 49; (with_reducible refine (laws_f6big.calls _ _ l0 true _ ?side1 ?side2 A2.out).mono ?_); (case side1 => repeat (first | exact HR0.out | (with_reducible refine ak ?_ _) | (with_reducible refine al ?_ _) | (with_reducible refine am ?_))); (case side2 => exact HC0.out); rintro e w' ⟨rfl, ⟨nd, rfl⟩⟩; (try first | exact ⟨rfl, _, aj _ _ _⟩ | exact ⟨rfl, _, Eq.trans (aj _ _ _) (congrArg (World.drewN _) (Nat.add_assoc _ _ _))⟩)))
  repeat (go_quiet (first | (go_at_call 49; (with_reducible refine (laws_f6big.calls _ _ l0 true _ ?side1 ?side2 A2.out).mono ?_); (case side1 => repeat (first | exact HR0.out | (with_reducible refine ak ?_ _) | (with_reducible refine al ?_ _) | (with_reducible refine am ?_))); (case side2 => exact HC0.out); rintro e w' ⟨rfl, ⟨nd, rfl⟩⟩; (try first | exact ⟨rfl, _, aj _ _ _⟩ | exact ⟨rfl, _, Eq.trans (aj _ _ _) (congrArg (World.drewN _) (Nat.add_assoc _ _ _))⟩))); try go_wp2)
  go_ret
  exact ⟨by first | rfl | (simp [errW_none, errW_some] <;> rfl) | (simp [*, errW_none, errW_some] <;> rfl), by repeat (first | (with_reducible first | exact HB.out | apply ah | apply ae | apply ag) | exact HB.out)⟩
 ·replace c3 := Bool.eq_false_iff.mpr c3
  subst c3
  have H1 := H; rw [if_neg (show ¬ (false = true) by decide)] at H1
  clear H
  have H := H1
  clear H1
  replace H := bm.mp H
  obtain ⟨⟨t444, t445⟩, A40, H⟩ := H
  (try dsimp only at H)
  have A4 := aa A40
  clear A40
  replace H := bm.mp H
  obtain ⟨⟨t450, t451⟩, A50, H⟩ := H
  (try dsimp only at H)
  have A5 := aa A50
  clear A50
  replace H := bm.mp H
  obtain ⟨⟨t454, t455⟩, A60, H⟩ := H
  (try dsimp only at H)
  have A6 := aa A60
  clear A60
  replace H := bm.mp H
  obtain ⟨⟨t458, t459⟩, A70, H⟩ := H
  (try dsimp only at H)
  have A7 := aa A70
  clear A70
  replace H := bm.mp H
  obtain ⟨⟨t464, t465⟩, A80, H⟩ := H
  (try dsimp only at H)
  have A8 := aa A80
  clear A80
  replace H := bm.mp H
  obtain ⟨⟨t468, t469⟩, A90, H⟩ := H
  (try dsimp only at H)
  have A9 := aa A90
  clear A90
  replace H := bm.mp H
  obtain ⟨⟨t472, t473⟩, A100, H⟩ := H
  (try dsimp only at H)
  have A10 := aa A100
  clear A100
  replace H := bm.mp H
  obtain ⟨⟨t478, t479⟩, A110, H⟩ := H
  (try dsimp only at H)
  have A11 := aa A110
  clear A110
  replace H := bm.mp H
  obtain ⟨⟨t482, t483⟩, A120, H⟩ := H
  (try dsimp only at H)
  have A12 := aa A120
  clear A120
  replace H := bm.mp H
  obtain ⟨t486, A130, H⟩ := H
  (try dsimp only at H)
  have A13 := aa A130
  clear A130
  replace H := bm.mp H
  obtain ⟨t489, A140, H⟩ := H
  (try dsimp only at H)
  have A14 := aa A140
  clear A140
  replace H := bm.mp H
  obtain ⟨⟨t490, t491⟩, A150, H⟩ := H
  (try dsimp only at H)
  have A15 := aa A150
  clear A150
  replace H := bm.mp H
  obtain ⟨t494, A160, H⟩ := H
  (try dsimp only at H)
  have A16 := aa A160
  clear A160
  replace H := bm.mp H
  obtain ⟨⟨t495, t496⟩, A170, H⟩ := H
  (try dsimp only at H)
  have A17 := aa A170
  clear A170
  replace H := bm.mp H
  obtain ⟨⟨t499, t500⟩, A180, H⟩ := H
  (try dsimp only at H)
  have A18 := aa A180
  clear A180
  have HC19 := aa H
  clear H
  go_enter Try.func14, Try.ntmps14
  go_upto_region 18 with (first | (go_at_call 49; (with_reducible refine (laws_f6big.calls _ _ l0 false _ ?side1 ?side2 A2.out).mono ?_); (case side1 => repeat (first | exact HR0.out | (with_reducible refine ak ?_ _) | (with_reducible refine al ?_ _) | (with_reducible refine am ?_))); (case side2 => exact HC0.out); rintro e w' ⟨rfl, ⟨nd, rfl⟩⟩; (try first | exact ⟨rfl, _, aj _ _ _⟩ | exact ⟨rfl, _, Eq.trans (aj _ _ _) (congrArg (World.drewN _) (Nat.add_assoc _ _ _))⟩)) | (go_at_call 54; (with_reducible refine (spec_DrawApplyRepairs.calls k _ _ l0 t444 t445 _ ?side1 ?side2 A4.out).mono ?_); (case side1 => repeat (first | exact HR0.out | (with_reducible refine ak ?_ _) | (with_reducible refine al ?_ _) | (with_reducible refine am ?_))); (case side2 => exact HC0.out); rintro e w20 ⟨v446, v448, rfl, ho0, ho1, hb⟩; have n0_ := aa (bd ho0 (ar (by repeat (first | (with_reducible first | exact HB.out | apply ah | apply ae | apply ag) | exact HB.out)))); have n1_ := aa (bd ho1 (ar (by repeat (first | (with_reducible first | exact HB.out | apply ah | apply ae | apply ag) | exact HB.out)))); have n2_ := aa (ay (by repeat (first | (with_reducible first | exact HB.out | apply ah | apply ae | apply ag) | exact HB.out)) hb); clear HB; have HO447 := n0_; have HO449 := n1_; have HB := n2_; clear n0_ n1_ n2_; (try clear hb); (try clear hb2); (try clear hk); (try clear hi); (try clear ho0); (try clear ho1); obtain ⟨Ao21, co21, eo21⟩ := ap HO447.out; subst eo21; obtain ⟨Ao22, co22, eo22⟩ := ap HO449.out; subst eo22) | (go_at_call 35; (with_reducible refine (impl_ApplyRepairs.calls k _ _ t444 _ _ t445 t450 t451 _ ?side1 ?side2 ?side3 ?side4 A5.out).mono ?_); (case side1 => repeat (first | exact (ai HO447.out).2.2 | (with_reducible refine ak ?_ _) | (with_reducible refine al ?_ _) | (with_reducible refine am ?_))); (case side2 => exact (ai HO447.out).2.1); (case side3 => repeat (first | exact (ai HO449.out).2.2 | (with_reducible refine ak ?_ _) | (with_reducible refine al ?_ _) | (with_reducible refine am ?_))); (case side4 => exact (ai HO449.out).2.1); rintro e w23 ⟨v452, rfl, ho0, hb⟩; have n0_ := aa (aw (by (with_reducible repeat (first | apply ab | apply ac | apply af)); exact HO447.out) (az ho0) hb); have n1_ := aa (aq (by (with_reducible repeat (first | apply ab | apply ac | apply af)); exact HO449.out) hb); have n2_ := aa (bd (ba ho0 (bc (by (with_reducible repeat (first | apply ab | apply ac | apply af)); exact HO447.out))) (ar (by repeat (first | (with_reducible first | exact HB.out | apply ah | apply ae | apply ag) | exact HB.out)))); have n3_ := aa (ay (by repeat (first | (with_reducible first | exact HB.out | apply ah | apply ae | apply ag) | exact HB.out)) hb); clear HO447; clear HO449; clear HB; have HO447 := n0_; have HO449 := n1_; have HO453 := n2_; have HB := n3_; clear n0_ n1_ n2_ n3_; (try clear hb); (try clear hb2); (try clear hk); (try clear hi); (try clear ho0)) | (go_at_call 33; (with_reducible refine (spec_ApplyRepairs.calls k _ _ t444 _ _ t445 t454 t455 _ ?side1 ?side2 ?side3 ?side4 A6.out).mono ?_); (case side1 => repeat (first | exact (ai HO447.out).2.2 | (with_reducible refine ak ?_ _) | (with_reducible refine al ?_ _) | (with_reducible refine am ?_))); (case side2 => exact (ai HO447.out).2.1); (case side3 => repeat (first | exact (ai HO449.out).2.2 | (with_reducible refine ak ?_ _) | (with_reducible refine al ?_ _) | (with_reducible refine am ?_))); (case side4 => exact (ai HO449.out).2.1); rintro e w24 ⟨v456, rfl, ho0, hb⟩; have n0_ := aa (aw (by (with_reducible repeat (first | apply ab | apply ac | apply af)); exact HO447.out) (az ho0) hb); have n1_ := aa (aq (by (with_reducible repeat (first | apply ab | apply ac | apply af)); exact HO449.out) hb); have n2_ := aa (aw (by (with_reducible repeat (first | apply ab | apply ac | apply af)); exact HO453.out) (az ho0) hb); have n3_ := aa (bd (ba (ba ho0 (bc (by (with_reducible repeat (first | apply ab | apply ac | apply af)); exact HO447.out))) (bc (by (with_reducible repeat (first | apply ab | apply ac | apply af)); exact HO453.out))) (ar (by repeat (first | (with_reducible first | exact HB.out | apply ah | apply ae | apply ag) | exact HB.out)))); have n4_ := aa (ay (by repeat (first | (with_reducible first | exact HB.out | apply ah | apply ae | apply ag) | exact HB.out)) hb); clear HO447; clear HO449; clear HO453; clear HB; have HO447 := n0_; have HO449 := n1_; have HO453 := n2_; have HO457 := n3_; have HB := n4_; clear n0_ n1_ n2_ n3_ n4_; (try clear hb); (try clear hb2); (try clear hk); (try clear hi); (try clear ho0)) | (go_at_call 55; (with_reducible refine (spec_DrawUndoRepairs.calls k _ _ l0 t458 t459 _ ?side1 ?side2 A7.out).mono ?_); (case side1 => repeat (first | exact (bl HR0.out HB.out) | (with_reducible refine ak ?_ _) | (with_reducible refine al ?_ _) | (with_reducible refine am ?_))); (case side2 => exact HC0.out); rintro e w25 ⟨v460, v462, rfl, ho0, ho1, hb⟩; have n0_ := aa (aw (by (with_reducible repeat (first | apply ab | apply ac | apply af)); exact HO447.out) (az ho0) hb); have n1_ := aa (aw (by (with_reducible repeat (first | apply ab | apply ac | apply af)); exact HO449.out) (az ho1) hb); have n2_ := aa (aw (by (with_reducible repeat (first | apply ab | apply ac | apply af)); exact HO453.out) (az ho0) hb); have n3_ := aa (aw (by (with_reducible repeat (first | apply ab | apply ac | apply af)); exact HO457.out) (az ho0) hb); have n4_ := aa (bd (ba (ba (ba ho0 (bc (by (with_reducible repeat (first | apply ab | apply ac | apply af)); exact HO447.out))) (bc (by (with_reducible repeat (first | apply ab | apply ac | apply af)); exact HO453.out))) (bc (by (with_reducible repeat (first | apply ab | apply ac | apply af)); exact HO457.out))) (ar (by repeat (first | (with_reducible first | exact HB.out | apply ah | apply ae | apply ag) | exact HB.out)))); have n5_ := aa (bd (ba ho1 (bc (by (with_reducible repeat (first | apply ab | apply ac | apply af)); exact HO449.out))) (ar (by repeat (first | (with_reducible first | exact HB.out | apply ah | apply ae | apply ag) | exact HB.out)))); have n6_ := aa (ay (by repeat (first | (with_reducible first | exact HB.out | apply ah | apply ae | apply ag) | exact HB.out)) hb); clear HO447; clear HO449; clear HO453; clear HO457; clear HB; have HO447 := n0_; have HO449 := n1_; have HO453 := n2_; have HO457 := n3_; have HO461 := n4_; have HO463 := n5_; have HB := n6_; clear n0_ n1_ n2_ n3_ n4_ n5_ n6_; (try clear hb); (try clear hb2); (try clear hk); (try clear hi); (try clear ho0); (try clear ho1); obtain ⟨Ao26, co26, eo26⟩ := ap HO461.out; subst eo26; obtain ⟨Ao27, co27, eo27⟩ := ap HO463.out; subst eo27) | (go_at_call 39; (with_reducible refine (impl_UndoRepairs.calls k _ _ t458 _ _ t459 t464 t465 _ ?side1 ?side2 ?side3 ?side4 A8.out).mono ?_); (case side1 => repeat (first | exact (ai HO461.out).2.2 | (with_reducible refine ak ?_ _) | (with_reducible refine al ?_ _) | (with_reducible refine am ?_))); (case side2 => exact (ai HO461.out).2.1); (case side3 => repeat (first | exact (ai HO463.out).2.2 | (with_reducible refine ak ?_ _) | (with_reducible refine al ?_ _) | (with_reducible refine am ?_))); (case side4 => exact (ai HO463.out).2.1); rintro e w28 ⟨v466, rfl, ho0, hb⟩; have n0_ := aa (aw (by (with_reducible repeat (first | apply ab | apply ac | apply af)); exact HO447.out) (az ho0) hb); have n1_ := aa (aq (by (with_reducible repeat (first | apply ab | apply ac | apply af)); exact HO449.out) hb); have n2_ := aa (aw (by (with_reducible repeat (first | apply ab | apply ac | apply af)); exact HO453.out) (az ho0) hb); have n3_ := aa (aw (by (with_reducible repeat (first | apply ab | apply ac | apply af)); exact HO457.out) (az ho0) hb); have n4_ := aa (aw (by (with_reducible repeat (first | apply ab | apply ac | apply af)); exact HO461.out) (az ho0) hb); have n5_ := aa (aq (by (with_reducible repeat (first | apply ab | apply ac | apply af)); exact HO463.out) hb); have n6_ := aa (bd (ba (ba (ba (ba ho0 (bc (by (with_reducible repeat (first | apply ab | apply ac | apply af)); exact HO447.out))) (bc (by (with_reducible repeat (first | apply ab | apply ac | apply af)); exact HO453.out))) (bc (by (with_reducible repeat (first | apply ab | apply ac | apply af)); exact HO457.out))) (bc (by (with_reducible repeat (first | apply ab | apply ac | apply af)); exact HO461.out))) (ar (by repeat (first | (with_reducible first | exact HB.out | apply ah | apply ae | apply ag) | exact HB.out)))); have n7_ := aa (ay (by repeat (first | (with_reducible first | exact HB.out | apply ah | apply ae | apply ag) | exact HB.out)) hb); clear HO447; clear HO449; clear HO453; clear HO457; clear HO461; clear HO463; clear HB; have HO447 := n0_; have HO449 := n1_; have HO453 := n2_; have HO457 := n3_; have HO461 := n4_; have HO463 := n5_; have HO467 := n6_; have HB := n7_; clear n0_ n1_ n2_ n3_ n4_ n5_ n6_ n7_; (try clear hb); (try clear hb2); (try clear hk); (try clear hi); (try clear ho0)) | (go_at_call 38; (with_reducible refine (spec_UndoRepairs.calls k _ _ t458 _ _ t459 t468 t469 _ ?side1 ?side2 ?side3 ?side4 A9.out).mono ?_); (case side1 => repeat (first | exact (ai HO461.out).2.2 | (with_reducible refine ak ?_ _) | (with_reducible refine al ?_ _) | (with_reducible refine am ?_))); (case side2 => exact (ai HO461.out).2.1); (case side3 => repeat (first | exact (ai HO463.out).2.2 | (with_reducible refine ak ?_ _) | (with_reducible refine al ?_ _) | (with_reducible refine am ?_))); (case side4 => exact (ai HO463.out).2.1); rintro e w29 ⟨v470, rfl, ho0, hb⟩; have n0_ := aa (aw (by (with_reducible repeat (first | apply ab | apply ac | apply af)); exact HO447.out) (az ho0) hb); have n1_ := aa (aq (by (with_reducible repeat (first | apply ab | apply ac | apply af)); exact HO449.out) hb); have n2_ := aa (aw (by (with_reducible repeat (first | apply ab | apply ac | apply af)); exact HO453.out) (az ho0) hb); have n3_ := aa (aw (by (with_reducible repeat (first | apply ab | apply ac | apply af)); exact HO457.out) (az ho0) hb); have n4_ := aa (aw (by (with_reducible repeat (first | apply ab | apply ac | apply af)); exact HO461.out) (az ho0) hb); have n5_ := aa (aq (by (with_reducible repeat (first | apply ab | apply ac | apply af)); exact HO463.out) hb); have n6_ := aa (aw (by (with_reducible repeat (first | apply ab | apply ac | apply af)); exact HO467.out) (az ho0) hb); have n7_ := aa (bd (ba (ba (ba (ba (ba ho0 (bc (by (with_reducible repeat (first | apply ab | apply ac | apply af)); exact HO447.out))) (bc (by (with_reducible repeat (first | apply ab | apply ac | apply af)); exact HO453.out))) (bc (by (with_reducible repeat (first | apply ab | apply ac | apply af)); exact HO457.out))) (bc (by (with_reducible repeat (first | apply ab | apply ac | apply af)); exact HO461.out))) (bc (by (with_reducible repeat (first | apply ab | apply ac | apply af)); exact HO467.out))) (ar (by repeat (first | (with_reducible first | exact HB.out | apply ah | apply ae | apply ag) | exact HB.out)))); have n8_ := aa (ay (by repeat (first | (with_reducible first | exact HB.out | apply ah | apply ae | apply ag) | exact HB.out)) hb); clear HO447; clear HO449; clear HO453; clear HO457; clear HO461; clear HO463; clear HO467; clear HB; have HO447 := n0_; have HO449 := n1_; have HO453 := n2_; have HO457 := n3_; have HO461 := n4_; have HO463 := n5_; have HO467 := n6_; have HO471 := n7_; have HB := n8_; clear n0_ n1_ n2_ n3_ n4_ n5_ n6_ n7_ n8_; (try clear hb); (try clear hb2); (try clear hk); (try clear hi); (try clear ho0)) | (go_at_call 56; (with_reducible refine (spec_DrawRepairsFor.calls k _ _ l0 t472 t473 _ ?side1 ?side2 A10.out).mono ?_); (case side1 => repeat (first | exact (bl HR0.out HB.out) | (with_reducible refine ak ?_ _) | (with_reducible refine al ?_ _) | (with_reducible refine am ?_))); (case side2 => exact HC0.out); rintro e w30 ⟨v474, v476, rfl, ho0, ho1, hb⟩; have n0_ := aa (aw (by (with_reducible repeat (first | apply ab | apply ac | apply af)); exact HO447.out) (az ho0) hb); have n1_ := aa (aq (by (with_reducible repeat (first | apply ab | apply ac | apply af)); exact HO449.out) hb); have n2_ := aa (aw (by (with_reducible repeat (first | apply ab | apply ac | apply af)); exact HO453.out) (az ho0) hb); have n3_ := aa (aw (by (with_reducible repeat (first | apply ab | apply ac | apply af)); exact HO457.out) (az ho0) hb); have n4_ := aa (aw (by (with_reducible repeat (first | apply ab | apply ac | apply af)); exact HO461.out) (az ho0) hb); have n5_ := aa (aq (by (with_reducible repeat (first | apply ab | apply ac | apply af)); exact HO463.out) hb); have n6_ := aa (aw (by (with_reducible repeat (first | apply ab | apply ac | apply af)); exact HO467.out) (az ho0) hb); have n7_ := aa (aw (by (with_reducible repeat (first | apply ab | apply ac | apply af)); exact HO471.out) (az ho0) hb); have n8_ := aa (bd (ba (ba (ba (ba (ba (ba ho0 (bc (by (with_reducible repeat (first | apply ab | apply ac | apply af)); exact HO447.out))) (bc (by (with_reducible repeat (first | apply ab | apply ac | apply af)); exact HO453.out))) (bc (by (with_reducible repeat (first | apply ab | apply ac | apply af)); exact HO457.out))) (bc (by (with_reducible repeat (first | apply ab | apply ac | apply af)); exact HO461.out))) (bc (by (with_reducible repeat (first | apply ab | apply ac | apply af)); exact HO467.out))) (bc (by (with_reducible repeat (first | apply ab | apply ac | apply af)); exact HO471.out))) (ar (by repeat (first | (with_reducible first | exact HB.out | apply ah | apply ae | apply ag) | exact HB.out)))); have n9_ := aa (Kd.S_lower (Kd.S_new' (Kd.S_new' (Kd.S_new' (Kd.S_new' (Kd.S_new' (Kd.S_new' ho1 (bc (by (with_reducible repeat (first | apply ab | apply ac | apply af)); exact HO447.out))) (bc (by (with_reducible repeat (first | apply ab | apply ac | apply af)); exact HO453.out))) (bc (by (with_reducible repeat (first | apply ab | apply ac | apply af)); exact HO457.out))) (bc (by (with_reducible repeat (first | apply ab | apply ac | apply af)); exact HO461.out))) (bc (by (with_reducible repeat (first | apply ab | apply ac | apply af)); exact HO467.out))) (bc (by (with_reducible repeat (first | apply ab | apply ac | apply af)); exact HO471.out))) (ar (by repeat (first | (with_reducible first | exact HB.out | apply ah | apply ae | apply ag) | exact HB.out)))); have n10_ := aa (ay (by repeat (first | (with_reducible first | exact HB.out | apply ah | apply ae | apply ag) | exact HB.out)) hb); clear HO447; clear HO449; clear HO453; clear HO457; clear HO461; clear HO463; clear HO467; clear HO471; clear HB; have HO447 := n0_; have HO449 := n1_; have HO453 := n2_; have HO457 := n3_; have HO461 := n4_; have HO463 := n5_; have HO467 := n6_; have HO471 := n7_; have HO475 := n8_; have HO477 := n9_; have HB := n10_; clear n0_ n1_ n2_ n3_ n4_ n5_ n6_ n7_ n8_ n9_ n10_; (try clear hb); (try clear hb2); (try clear hk); (try clear hi); (try clear ho0); (try clear ho1); obtain ⟨Ao31, co31, eo31⟩ := ap HO475.out; subst eo31; obtain ⟨Ao32, co32, eo32⟩ := Kd.S_slice HO477.out; subst eo32) | (go_at_call 43; (with_reducible refine (impl_RepairsFor.calls k _ _ t472 _ _ t473 t478 t479 _ ?side1 ?side2 ?side3 ?side4 A11.out).mono ?_); (case side1 => repeat (first | exact (ai HO475.out).2.2 | (with_reducible refine ak ?_ _) | (with_reducible refine al ?_ _) | (with_reducible refine am ?_))); (case side2 => exact (ai HO475.out).2.1); (case side3 => repeat (first | exact (Kd.S_reads' HO477.out).2.2 | (with_reducible refine ak ?_ _) | (with_reducible refine al ?_ _) | (with_reducible refine am ?_))); (case side4 => exact (Kd.S_reads' HO477.out).2.1); rintro e w33 ⟨v480, rfl, ho0, hb⟩; have n0_ := aa (aq (by (with_reducible repeat (first | apply ab | apply ac | apply af)); exact HO447.out) hb); have n1_ := aa (aw (by (with_reducible repeat (first | apply ab | apply ac | apply af)); exact HO449.out) (az ho0) hb); have n2_ := aa (aq (by (with_reducible repeat (first | apply ab | apply ac | apply af)); exact HO453.out) hb); have n3_ := aa (aq (by (with_reducible repeat (first | apply ab | apply ac | apply af)); exact HO457.out) hb); have n4_ := aa (aq (by (with_reducible repeat (first | apply ab | apply ac | apply af)); exact HO461.out) hb); have n5_ := aa (aw (by (with_reducible repeat (first | apply ab | apply ac | apply af)); exact HO463.out) (az ho0) hb); have n6_ := aa (aq (by (with_reducible repeat (first | apply ab | apply ac | apply af)); exact HO467.out) hb); have n7_ := aa (aq (by (with_reducible repeat (first | apply ab | apply ac | apply af)); exact HO471.out) hb); have n8_ := aa (aq (by (with_reducible repeat (first | apply ab | apply ac | apply af)); exact HO475.out) hb); have n9_ := aa (Kd.S_below (by (with_reducible repeat (first | apply Kd.S_alloc | apply Kd.S_drewN | apply Kd.S_drew)); exact HO477.out) hb); have n10_ := aa (bd (ba (ba ho0 (bc (by (with_reducible repeat (first | apply ab | apply ac | apply af)); exact HO449.out))) (bc (by (with_reducible repeat (first | apply ab | apply ac | apply af)); exact HO463.out))) (ar (by repeat (first | (with_reducible first | exact HB.out | apply ah | apply ae | apply ag) | exact HB.out)))); have n11_ := aa (ay (by repeat (first | (with_reducible first | exact HB.out | apply ah | apply ae | apply ag) | exact HB.out)) hb); clear HO447; clear HO449; clear HO453; clear HO457; clear HO461; clear HO463; clear HO467; clear HO471; clear HO475; clear HO477; clear HB; have HO447 := n0_; have HO449 := n1_; have HO453 := n2_; have HO457 := n3_; have HO461 := n4_; have HO463 := n5_; have HO467 := n6_; have HO471 := n7_; have HO475 := n8_; have HO477 := n9_; have HO481 := n10_; have HB := n11_; clear n0_ n1_ n2_ n3_ n4_ n5_ n6_ n7_ n8_ n9_ n10_ n11_; (try clear hb); (try clear hb2); (try clear hk); (try clear hi); (try clear ho0)) | (go_at_call 41; (with_reducible refine (spec_RepairsFor.calls k _ _ t472 _ _ t473 t482 t483 _ ?side1 ?side2 ?side3 ?side4 A12.out).mono ?_); (case side1 => repeat (first | exact (ai HO475.out).2.2 | (with_reducible refine ak ?_ _) | (with_reducible refine al ?_ _) | (with_reducible refine am ?_))); (case side2 => exact (ai HO475.out).2.1); (case side3 => repeat (first | exact (Kd.S_reads' HO477.out).2.2 | (with_reducible refine ak ?_ _) | (with_reducible refine al ?_ _) | (with_reducible refine am ?_))); (case side4 => exact (Kd.S_reads' HO477.out).2.1); rintro e w34 ⟨v484, rfl, ho0, hb⟩; have n0_ := aa (aq (by (with_reducible repeat (first | apply ab | apply ac | apply af)); exact HO447.out) hb); have n1_ := aa (aw (by (with_reducible repeat (first | apply ab | apply ac | apply af)); exact HO449.out) (az ho0) hb); have n2_ := aa (aq (by (with_reducible repeat (first | apply ab | apply ac | apply af)); exact HO453.out) hb); have n3_ := aa (aq (by (with_reducible repeat (first | apply ab | apply ac | apply af)); exact HO457.out) hb); have n4_ := aa (aq (by (with_reducible repeat (first | apply ab | apply ac | apply af)); exact HO461.out) hb); have n5_ := aa (aw (by (with_reducible repeat (first | apply ab | apply ac | apply af)); exact HO463.out) (az ho0) hb); have n6_ := aa (aq (by (with_reducible repeat (first | apply ab | apply ac | apply af)); exact HO467.out) hb); have n7_ := aa (aq (by (with_reducible repeat (first | apply ab | apply ac | apply af)); exact HO471.out) hb); have n8_ := aa (aq (by (with_reducible repeat (first | apply ab | apply ac | apply af)); exact HO475.out) hb); have n9_ := aa (Kd.S_below (by (with_reducible repeat (first | apply Kd.S_alloc | apply Kd.S_drewN | apply Kd.S_drew)); exact HO477.out) hb); have n10_ := aa (aw (by (with_reducible repeat (first | apply ab | apply ac | apply af)); exact HO481.out) (az ho0) hb); have n11_ := aa (bd (ba (ba (ba ho0 (bc (by (with_reducible repeat (first | apply ab | apply ac | apply af)); exact HO449.out))) (bc (by (with_reducible repeat (first | apply ab | apply ac | apply af)); exact HO463.out))) (bc (by (with_reducible repeat (first | apply ab | apply ac | apply af)); exact HO481.out))) (ar (by repeat (first | (with_reducible first | exact HB.out | apply ah | apply ae | apply ag) | exact HB.out)))); have n12_ := aa (ay (by repeat (first | (with_reducible first | exact HB.out | apply ah | apply ae | apply ag) | exact HB.out)) hb); clear HO447; clear HO449; clear HO453; clear HO457; clear HO461; clear HO463; clear HO467; clear HO471; clear HO475; clear HO477; clear HO481; clear HB; have HO447 := n0_; have HO449 := n1_; have HO453 := n2_; have HO457 := n3_; have HO461 := n4_; have HO463 := n5_; have HO467 := n6_; have HO471 := n7_; have HO475 := n8_; have HO477 := n9_; have HO481 := n10_; have HO485 := n11_; have HB := n12_; clear n0_ n1_ n2_ n3_ n4_ n5_ n6_ n7_ n8_ n9_ n10_ n11_ n12_; (try clear hb); (try clear hb2); (try clear hk); (try clear hi); (try clear ho0)) | (go_at_call 57; (with_reducible refine (spec_DrawStatesText.calls k _ _ l0 t486 _ ?side1 ?side2 A13.out).mono ?_); (case side1 => repeat (first | exact (bl HR0.out HB.out) | (with_reducible refine ak ?_ _) | (with_reducible refine al ?_ _) | (with_reducible refine am ?_))); (case side2 => exact HC0.out); rintro e w35 ⟨v487, rfl, ho0, hb⟩; have n0_ := aa (aw (by (with_reducible repeat (first | apply ab | apply ac | apply af)); exact HO447.out) (az ho0) hb); have n1_ := aa (aq (by (with_reducible repeat (first | apply ab | apply ac | apply af)); exact HO449.out) hb); have n2_ := aa (aw (by (with_reducible repeat (first | apply ab | apply ac | apply af)); exact HO453.out) (az ho0) hb); have n3_ := aa (aw (by (with_reducible repeat (first | apply ab | apply ac | apply af)); exact HO457.out) (az ho0) hb); have n4_ := aa (aw (by (with_reducible repeat (first | apply ab | apply ac | apply af)); exact HO461.out) (az ho0) hb); have n5_ := aa (aq (by (with_reducible repeat (first | apply ab | apply ac | apply af)); exact HO463.out) hb); have n6_ := aa (aw (by (with_reducible repeat (first | apply ab | apply ac | apply af)); exact HO467.out) (az ho0) hb); have n7_ := aa (aw (by (with_reducible repeat (first | apply ab | apply ac | apply af)); exact HO471.out) (az ho0) hb); have n8_ := aa (aw (by (with_reducible repeat (first | apply ab | apply ac | apply af)); exact HO475.out) (az ho0) hb); have n9_ := aa (Kd.S_elder' (by (with_reducible repeat (first | apply Kd.S_alloc | apply Kd.S_drewN | apply Kd.S_drew)); exact HO477.out) (az ho0) hb); have n10_ := aa (aq (by (with_reducible repeat (first | apply ab | apply ac | apply af)); exact HO481.out) hb); have n11_ := aa (aq (by (with_reducible repeat (first | apply ab | apply ac | apply af)); exact HO485.out) hb); have n12_ := aa (bd (ba (ba (ba (ba (ba (ba (ba ho0 (bc (by (with_reducible repeat (first | apply ab | apply ac | apply af)); exact HO447.out))) (bc (by (with_reducible repeat (first | apply ab | apply ac | apply af)); exact HO453.out))) (bc (by (with_reducible repeat (first | apply ab | apply ac | apply af)); exact HO457.out))) (bc (by (with_reducible repeat (first | apply ab | apply ac | apply af)); exact HO461.out))) (bc (by (with_reducible repeat (first | apply ab | apply ac | apply af)); exact HO467.out))) (bc (by (with_reducible repeat (first | apply ab | apply ac | apply af)); exact HO471.out))) (bc (by (with_reducible repeat (first | apply ab | apply ac | apply af)); exact HO475.out))) (ar (by repeat (first | (with_reducible first | exact HB.out | apply ah | apply ae | apply ag) | exact HB.out)))); have n13_ := aa (ay (by repeat (first | (with_reducible first | exact HB.out | apply ah | apply ae | apply ag) | exact HB.out)) hb); clear HO447; clear HO449; clear HO453; clear HO457; clear HO461; clear HO463; clear HO467; clear HO471; clear HO475; clear HO477; clear HO481; clear HO485; clear HB; have HO447 := n0_; have HO449 := n1_; have HO453 := n2_; have HO457 := n3_; have HO461 := n4_; have HO463 := n5_; have HO467 := n6_; have HO471 := n7_; have HO475 := n8_; have HO477 := n9_; have HO481 := n10_; have HO485 := n11_; have HO488 := n12_; have HB := n13_; clear n0_ n1_ n2_ n3_ n4_ n5_ n6_ n7_ n8_ n9_ n10_ n11_ n12_ n13_; (try clear hb); (try clear hb2); (try clear hk); (try clear hi); (try clear ho0); obtain ⟨Ao36, co36, eo36⟩ := ap HO488.out; subst eo36) | (go_at_call 20; (with_reducible refine (impl_StatesText.calls k _ _ t486 t489 _ ?side1 ?side2 A14.out).mono ?_); (case side1 => repeat (first | exact (ai HO488.out).2.2 | (with_reducible refine ak ?_ _) | (with_reducible refine al ?_ _) | (with_reducible refine am ?_))); (case side2 => exact (ai HO488.out).2.1); rintro e w37 ⟨rfl, hb⟩; have n0_ := aa (aq (by (with_reducible repeat (first | apply ab | apply ac | apply af)); exact HO447.out) hb); have n1_ := aa (aq (by (with_reducible repeat (first | apply ab | apply ac | apply af)); exact HO449.out) hb); have n2_ := aa (aq (by (with_reducible repeat (first | apply ab | apply ac | apply af)); exact HO453.out) hb); have n3_ := aa (aq (by (with_reducible repeat (first | apply ab | apply ac | apply af)); exact HO457.out) hb); have n4_ := aa (aq (by (with_reducible repeat (first | apply ab | apply ac | apply af)); exact HO461.out) hb); have n5_ := aa (aq (by (with_reducible repeat (first | apply ab | apply ac | apply af)); exact HO463.out) hb); have n6_ := aa (aq (by (with_reducible repeat (first | apply ab | apply ac | apply af)); exact HO467.out) hb); have n7_ := aa (aq (by (with_reducible repeat (first | apply ab | apply ac | apply af)); exact HO471.out) hb); have n8_ := aa (aq (by (with_reducible repeat (first | apply ab | apply ac | apply af)); exact HO475.out) hb); have n9_ := aa (Kd.S_below (by (with_reducible repeat (first | apply Kd.S_alloc | apply Kd.S_drewN | apply Kd.S_drew)); exact HO477.out) hb); have n10_ := aa (aq (by (with_reducible repeat (first | apply ab | apply ac | apply af)); exact HO481.out) hb); have n11_ := aa (aq (by (with_reducible repeat (first | apply ab | apply ac | apply af)); exact HO485.out) hb); have n12_ := aa (aq (by (with_reducible repeat (first | apply ab | apply ac | apply af)); exact HO488.out) hb); have n13_ := aa (ay (by repeat (first | (with_reducible first | exact HB.out | apply ah | apply ae | apply ag) | exact HB.out)) hb); clear HO447; clear HO449; clear HO453; clear HO457; clear HO461; clear HO463; clear HO467; clear HO471; clear HO475; clear HO477; clear HO481; clear HO485; clear HO488; clear HB; have HO447 := n0_; have HO449 := n1_; have HO453 := n2_; have HO457 := n3_; have HO461 := n4_; have HO463 := n5_; have HO467 := n6_; have HO471 := n7_; have HO475 := n8_; have HO477 := n9_; have HO481 := n10_; have HO485 := n11_; have HO488 := n12_; have HB := n13_; clear n0_ n1_ n2_ n3_ n4_ n5_ n6_ n7_ n8_ n9_ n10_ n11_ n12_ n13_; (try clear hb); (try clear hb2); (try clear hk); (try clear hi)) | (go_at_call 28; (with_reducible refine (impl_ReadStates.calls k t489 t490 t491 _ A15.out).mono ?_); rintro e w38 ⟨v492, rfl, ho0, hb⟩; have n0_ := aa (aw (by (with_reducible repeat (first | apply ab | apply ac | apply af)); exact HO447.out) (az ho0) hb); have n1_ := aa (aq (by (with_reducible repeat (first | apply ab | apply ac | apply af)); exact HO449.out) hb); have n2_ := aa (aw (by (with_reducible repeat (first | apply ab | apply ac | apply af)); exact HO453.out) (az ho0) hb); have n3_ := aa (aw (by (with_reducible repeat (first | apply ab | apply ac | apply af)); exact HO457.out) (az ho0) hb); have n4_ := aa (aw (by (with_reducible repeat (first | apply ab | apply ac | apply af)); exact HO461.out) (az ho0) hb); have n5_ := aa (aq (by (with_reducible repeat (first | apply ab | apply ac | apply af)); exact HO463.out) hb); have n6_ := aa (aw (by (with_reducible repeat (first | apply ab | apply ac | apply af)); exact HO467.out) (az ho0) hb); have n7_ := aa (aw (by (with_reducible repeat (first | apply ab | apply ac | apply af)); exact HO471.out) (az ho0) hb); have n8_ := aa (aw (by (with_reducible repeat (first | apply ab | apply ac | apply af)); exact HO475.out) (az ho0) hb); have n9_ := aa (Kd.S_elder' (by (with_reducible repeat (first | apply Kd.S_alloc | apply Kd.S_drewN | apply Kd.S_drew)); exact HO477.out) (az ho0) hb); have n10_ := aa (aq (by (with_reducible repeat (first | apply ab | apply ac | apply af)); exact HO481.out) hb); have n11_ := aa (aq (by (with_reducible repeat (first | apply ab | apply ac | apply af)); exact HO485.out) hb); have n12_ := aa (aw (by (with_reducible repeat (first | apply ab | apply ac | apply af)); exact HO488.out) (az ho0) hb); have n13_ := aa (bd (ba (ba (ba (ba (ba (ba (ba (ba ho0 (bc (by (with_reducible repeat (first | apply ab | apply ac | apply af)); exact HO447.out))) (bc (by (with_reducible repeat (first | apply ab | apply ac | apply af)); exact HO453.out))) (bc (by (with_reducible repeat (first | apply ab | apply ac | apply af)); exact HO457.out))) (bc (by (with_reducible repeat (first | apply ab | apply ac | apply af)); exact HO461.out))) (bc (by (with_reducible repeat (first | apply ab | apply ac | apply af)); exact HO467.out))) (bc (by (with_reducible repeat (first | apply ab | apply ac | apply af)); exact HO471.out))) (bc (by (with_reducible repeat (first | apply ab | apply ac | apply af)); exact HO475.out))) (bc (by (with_reducible repeat (first | apply ab | apply ac | apply af)); exact HO488.out))) (ar (by repeat (first | (with_reducible first | exact HB.out | apply ah | apply ae | apply ag) | exact HB.out)))); have n14_ := aa (ay (by repeat (first | (with_reducible first | exact HB.out | apply ah | apply ae | apply ag) | exact HB.out)) hb); clear HO447; clear HO449; clear HO453; clear HO457; clear HO461; clear HO463; clear HO467; clear HO471; clear HO475; clear HO477; clear HO481; clear HO485; clear HO488; clear HB; have HO447 := n0_; have HO449 := n1_; have HO453 := n2_; have HO457 := n3_; have HO461 := n4_; have HO463 := n5_; have HO467 := n6_; have HO471 := n7_; have HO475 := n8_; have HO477 := n9_; have HO481 := n10_; have HO485 := n11_; have HO488 := n12_; have HO493 := n13_; have HB := n14_; clear n0_ n1_ n2_ n3_ n4_ n5_ n6_ n7_ n8_ n9_ n10_ n11_ n12_ n13_ n14_; (try clear hb); (try clear hb2); (try clear hk); (try clear hi); (try clear ho0)) | (go_at_call 58; (with_reducible refine (spec_DrawReadStates.calls k _ _ l0 t494 _ ?side1 ?side2 A16.out).mono ?_); (case side1 => repeat (first | exact (bl HR0.out HB.out) | (with_reducible refine ak ?_ _) | (with_reducible refine al ?_ _) | (with_reducible refine am ?_))); (case side2 => exact HC0.out); rintro e w39 ⟨rfl, hb⟩; have n0_ := aa (aq (by (with_reducible repeat (first | apply ab | apply ac | apply af)); exact HO447.out) hb); have n1_ := aa (aq (by (with_reducible repeat (first | apply ab | apply ac | apply af)); exact HO449.out) hb); have n2_ := aa (aq (by (with_reducible repeat (first | apply ab | apply ac | apply af)); exact HO453.out) hb); have n3_ := aa (aq (by (with_reducible repeat (first | apply ab | apply ac | apply af)); exact HO457.out) hb); have n4_ := aa (aq (by (with_reducible repeat (first | apply ab | apply ac | apply af)); exact HO461.out) hb); have n5_ := aa (aq (by (with_reducible repeat (first | apply ab | apply ac | apply af)); exact HO463.out) hb); have n6_ := aa (aq (by (with_reducible repeat (first | apply ab | apply ac | apply af)); exact HO467.out) hb); have n7_ := aa (aq (by (with_reducible repeat (first | apply ab | apply ac | apply af)); exact HO471.out) hb); have n8_ := aa (aq (by (with_reducible repeat (first | apply ab | apply ac | apply af)); exact HO475.out) hb); have n9_ := aa (Kd.S_below (by (with_reducible repeat (first | apply Kd.S_alloc | apply Kd.S_drewN | apply Kd.S_drew)); exact HO477.out) hb); have n10_ := aa (aq (by (with_reducible repeat (first | apply ab | apply ac | apply af)); exact HO481.out) hb); have n11_ := aa (aq (by (with_reducible repeat (first | apply ab | apply ac | apply af)); exact HO485.out) hb); have n12_ := aa (aq (by (with_reducible repeat (first | apply ab | apply ac | apply af)); exact HO488.out) hb); have n13_ := aa (aq (by (with_reducible repeat (first | apply ab | apply ac | apply af)); exact HO493.out) hb); have n14_ := aa (ay (by repeat (first | (with_reducible first | exact HB.out | apply ah | apply ae | apply ag) | exact HB.out)) hb); clear HO447; clear HO449; clear HO453; clear HO457; clear HO461; clear HO463; clear HO467; clear HO471; clear HO475; clear HO477; clear HO481; clear HO485; clear HO488; clear HO493; clear HB; have HO447 := n0_; have HO449 := n1_; have HO453 := n2_; have HO457 := n3_; have HO461 := n4_; have HO463 := n5_; have HO467 := n6_; have HO471 := n7_; have HO475 := n8_; have HO477 := n9_; have HO481 := n10_; have HO485 := n11_; have HO488 := n12_; have HO493 := n13_; have HB := n14_; clear n0_ n1_ n2_ n3_ n4_ n5_ n6_ n7_ n8_ n9_ n10_ n11_ n12_ n13_ n14_; (try clear hb); (try clear hb2); (try clear hk); (try clear hi)) | (go_at_call 28; (with_reducible refine (impl_ReadStates.calls k t494 t495 t496 _ A17.out).mono ?_); rintro e w40 ⟨v497, rfl, ho0, hb⟩; have n0_ := aa (aw (by (with_reducible repeat (first | apply ab | apply ac | apply af)); exact HO447.out) (az ho0) hb); have n1_ := aa (aq (by (with_reducible repeat (first | apply ab | apply ac | apply af)); exact HO449.out) hb); have n2_ := aa (aw (by (with_reducible repeat (first | apply ab | apply ac | apply af)); exact HO453.out) (az ho0) hb); have n3_ := aa (aw (by (with_reducible repeat (first | apply ab | apply ac | apply af)); exact HO457.out) (az ho0) hb); have n4_ := aa (aw (by (with_reducible repeat (first | apply ab | apply ac | apply af)); exact HO461.out) (az ho0) hb); have n5_ := aa (aq (by (with_reducible repeat (first | apply ab | apply ac | apply af)); exact HO463.out) hb); have n6_ := aa (aw (by (with_reducible repeat (first | apply ab | apply ac | apply af)); exact HO467.out) (az ho0) hb); have n7_ := aa (aw (by (with_reducible repeat (first | apply ab | apply ac | apply af)); exact HO471.out) (az ho0) hb); have n8_ := aa (aw (by (with_reducible repeat (first | apply ab | apply ac | apply af)); exact HO475.out) (az ho0) hb); have n9_ := aa (Kd.S_elder' (by (with_reducible repeat (first | apply Kd.S_alloc | apply Kd.S_drewN | apply Kd.S_drew)); exact HO477.out) (az ho0) hb); have n10_ := aa (aq (by (with_reducible repeat (first | apply ab | apply ac | apply af)); exact HO481.out) hb); have n11_ := aa (aq (by (with_reducible repeat (first | apply ab | apply ac | apply af)); exact HO485.out) hb); have n12_ := aa (aw (by (with_reducible repeat (first | apply ab | apply ac | apply af)); exact HO488.out) (az ho0) hb); have n13_ := aa (aw (by (with_reducible repeat (first | apply ab | apply ac | apply af)); exact HO493.out) (az ho0) hb); have n14_ := aa (bd (ba (ba (ba (ba (ba (ba (ba (ba (ba ho0 (bc (by (with_reducible repeat (first | apply ab | apply ac | apply af)); exact HO447.out))) (bc (by (with_reducible repeat (first | apply ab | apply ac | apply af)); exact HO453.out))) (bc (by (with_reducible repeat (first | apply ab | apply ac | apply af)); exact HO457.out))) (bc (by (with_reducible repeat (first | apply ab | apply ac | apply af)); exact HO461.out))) (bc (by (with_reducible repeat (first | apply ab | apply ac | apply af)); exact HO467.out))) (bc (by (with_reducible repeat (first | apply ab | apply ac | apply af)); exact HO471.out))) (bc (by (with_reducible repeat (first | apply ab | apply ac | apply af)); exact HO475.out))) (bc (by (with_reducible repeat (first | apply ab | apply ac | apply af)); exact HO488.out))) (bc (by (with_reducible repeat (first | apply ab | apply ac | apply af)); exact HO493.out))) (ar (by repeat (first | (with_reducible first | exact HB.out | apply ah | apply ae | apply ag) | exact HB.out)))); have n15_ := aa (ay (by repeat (first | (with_reducible first | exact HB.out | apply ah | apply ae | apply ag) | exact HB.out)) hb); clear HO447; clear HO449; clear HO453; clear HO457; clear HO461; clear HO463; clear HO467; clear HO471; clear HO475; clear HO477; clear HO481; clear HO485; clear HO488; clear HO493; clear HB; have HO447 := n0_; have HO449 := n1_; have HO453 := n2_; have HO457 := n3_; have HO461 := n4_; have HO463 := n5_; have HO467 := n6_; have HO471 := n7_; have HO475 := n8_; have HO477 := n9_; have HO481 := n10_; have HO485 := n11_; have HO488 := n12_; have HO493 := n13_; have HO498 := n14_; have HB := n15_; clear n0_ n1_ n2_ n3_ n4_ n5_ n6_ n7_ n8_ n9_ n10_ n11_ n12_ n13_ n14_ n15_; (try clear hb); (try clear hb2); (try clear hk); (try clear hi); (try clear ho0)) | (go_at_call 27; (with_reducible refine (spec_ReadStates.calls k t494 t499 t500 _ A18.out).mono ?_); rintro e w41 ⟨v501, rfl, ho0, hb⟩; have n0_ := aa (aw (by (with_reducible repeat (first | apply ab | apply ac | apply af)); exact HO447.out) (az ho0) hb); have n1_ := aa (aq (by (with_reducible repeat (first | apply ab | apply ac | apply af)); exact HO449.out) hb); have n2_ := aa (aw (by (with_reducible repeat (first | apply ab | apply ac | apply af)); exact HO453.out) (az ho0) hb); have n3_ := aa (aw (by (with_reducible repeat (first | apply ab | apply ac | apply af)); exact HO457.out) (az ho0) hb); have n4_ := aa (aw (by (with_reducible repeat (first | apply ab | apply ac | apply af)); exact HO461.out) (az ho0) hb); have n5_ := aa (aq (by (with_reducible repeat (first | apply ab | apply ac | apply af)); exact HO463.out) hb); have n6_ := aa (aw (by (with_reducible repeat (first | apply ab | apply ac | apply af)); exact HO467.out) (az ho0) hb); have n7_ := aa (aw (by (with_reducible repeat (first | apply ab | apply ac | apply af)); exact HO471.out) (az ho0) hb); have n8_ := aa (aw (by (with_reducible repeat (first | apply ab | apply ac | apply af)); exact HO475.out) (az ho0) hb); have n9_ := aa (Kd.S_elder' (by (with_reducible repeat (first | apply Kd.S_alloc | apply Kd.S_drewN | apply Kd.S_drew)); exact HO477.out) (az ho0) hb); have n10_ := aa (aq (by (with_reducible repeat (first | apply ab | apply ac | apply af)); exact HO481.out) hb); have n11_ := aa (aq (by (with_reducible repeat (first | apply ab | apply ac | apply af)); exact HO485.out) hb); have n12_ := aa (aw (by (with_reducible repeat (first | apply ab | apply ac | apply af)); exact HO488.out) (az ho0) hb); have n13_ := aa (aw (by (with_reducible repeat (first | apply ab | apply ac | apply af)); exact HO493.out) (az ho0) hb); have n14_ := aa (aw (by (with_reducible repeat (first | apply ab | apply ac | apply af)); exact HO498.out) (az ho0) hb); have n15_ := aa (bd (ba (ba (ba (ba (ba (ba (ba (ba (ba (ba ho0 (bc (by (with_reducible repeat (first | apply ab | apply ac | apply af)); exact HO447.out))) (bc (by (with_reducible repeat (first | apply ab | apply ac | apply af)); exact HO453.out))) (bc (by (with_reducible repeat (first | apply ab | apply ac | apply af)); exact HO457.out))) (bc (by (with_reducible repeat (first | apply ab | apply ac | apply af)); exact HO461.out))) (bc (by (with_reducible repeat (first | apply ab | apply ac | apply af)); exact HO467.out))) (bc (by (with_reducible repeat (first | apply ab | apply ac | apply af)); exact HO471.out))) (bc (by (with_reducible repeat (first | apply ab | apply ac | apply af)); exact HO475.out))) (bc (by (with_reducible repeat (first | apply ab | apply ac | apply af)); exact HO488.out))) (bc (by (with_reducible repeat (first | apply ab | apply ac | apply af)); exact HO493.out))) (bc (by (with_reducible repeat (first | apply ab | apply ac | apply af)); exact HO498.out))) (ar (by repeat (first | (with_reducible first | exact HB.out | apply ah | apply ae | apply ag) | exact HB.out)))); have n16_ := aa (ay (by repeat (first | (with_reducible first | exact HB.out | apply ah | apply ae | apply ag) | exact HB.out)) hb); clear HO447; clear HO449; clear HO453; clear HO457; clear HO461; clear HO463; clear HO467; clear HO471; clear HO475; clear HO477; clear HO481; clear HO485; clear HO488; clear HO493; clear HO498; clear HB; have HO447 := n0_; have HO449 := n1_; have HO453 := n2_; have HO457 := n3_; have HO461 := n4_; have HO463 := n5_; have HO467 := n6_; have HO471 := n7_; have HO475 := n8_; have HO477 := n9_; have HO481 := n10_; have HO485 := n11_; have HO488 := n12_; have HO493 := n13_; have HO498 := n14_; have HO502 := n15_; have HB := n16_; clear n0_ n1_ n2_ n3_ n4_ n5_ n6_ n7_ n8_ n9_ n10_ n11_ n12_ n13_ n14_ n15_ n16_; (try clear hb); (try clear hb2); (try clear hk); (try clear hi); (try clear ho0)))
  (try simp only [Act.put, List.setIfInBounds_toArray, List.set_cons_zero, List.set_cons_succ])
  go_cut [166] (fun v166 wc => ∃ (kq : Nat) (x166_18 : Bool), v166 = .bool x166_18 ∧ Aside0 (laws_FnRepairs.j0 kq t444 t445 t450 t451 t472 t478 t479 t482 t486 t489 t490 t491 x166_18 = some r) ∧ Aside0 (kq ≤ k) ∧ Aside0 (Kd.R (Kd.int .i64) 2 wc w.heap.size (fun k_ => some k_ ≠ (v452 : Value).ownBlock ∧ some k_ ≠ ((.slice Ao31 t472.length co31) : Value).ownBlock ∧ some k_ ≠ ((.slice Ao36 t486.length co36) : Value).ownBlock ∧ some k_ ≠ (v492 : Value).ownBlock) (.slice Ao21 t444.length co21) t444) ∧ Aside0 (Kd.R k64 64 wc w.heap.size (fun k_ => some k_ ≠ (v480 : Value).ownBlock ∧ some k_ ≠ (v484 : Value).ownBlock) (.slice Ao22 t445.length co22) t445) ∧ Aside0 (Kd.R (Kd.int .i64) 2 wc w.heap.size (fun k_ => some k_ ≠ ((.slice Ao21 t444.length co21) : Value).ownBlock ∧ some k_ ≠ ((.slice Ao31 t472.length co31) : Value).ownBlock ∧ some k_ ≠ ((.slice Ao36 t486.length co36) : Value).ownBlock ∧ some k_ ≠ (v492 : Value).ownBlock) v452 t450) ∧ Aside0 (Kd.R (Kd.int .i64) 2 wc w.heap.size (fun k_ => some k_ ≠ ((.slice Ao21 t444.length co21) : Value).ownBlock ∧ some k_ ≠ (v452 : Value).ownBlock ∧ some k_ ≠ ((.slice Ao36 t486.length co36) : Value).ownBlock ∧ some k_ ≠ (v492 : Value).ownBlock) (.slice Ao31 t472.length co31) t472) ∧ Aside0 (Kd.R k64 64 wc w.heap.size (fun k_ => some k_ ≠ ((.slice Ao22 t445.length co22) : Value).ownBlock ∧ some k_ ≠ (v484 : Value).ownBlock) v480 t478) ∧ Aside0 (Kd.R k64 64 wc w.heap.size (fun k_ => some k_ ≠ ((.slice Ao22 t445.length co22) : Value).ownBlock ∧ some k_ ≠ (v480 : Value).ownBlock) v484 t482) ∧ Aside0 (Kd.R (Kd.int .i64) 2 wc w.heap.size (fun k_ => some k_ ≠ ((.slice Ao21 t444.length co21) : Value).ownBlock ∧ some k_ ≠ (v452 : Value).ownBlock ∧ some k_ ≠ ((.slice Ao31 t472.length co31) : Value).ownBlock ∧ some k_ ≠ (v492 : Value).ownBlock) (.slice Ao36 t486.length co36) t486) ∧ Aside0 (Kd.R (Kd.int .i64) 2 wc w.heap.size (fun k_ => some k_ ≠ ((.slice Ao21 t444.length co21) : Value).ownBlock ∧ some k_ ≠ (v452 : Value).ownBlock ∧ some k_ ≠ ((.slice Ao31 t472.length co31) : Value).ownBlock ∧ some k_ ≠ ((.slice Ao36 t486.length co36) : Value).ownBlock) v492 t490) ∧ Aside0 (Below w.heap.size w wc))
  case first => as_aux_lemma =>
   have H := HC19.out
   clear HC19
   by_cases c42 : t451 = t455
   ·rw [if_pos c42] at H
    have c42b0 : (t451 == t455) = true := beq_iff_eq.mpr c42
    have c42b1 : (t451 != t455) = false := bne_eq_false_iff_eq.mpr c42
    clear c42
    (first | rw [c42b0] | (simp only [i64_w, i32_w]; rw [c42b0]) | skip)
    replace H := bm.mp H
    obtain ⟨t503, A430, H⟩ := H
    (try dsimp only at H)
    have A43 := aa A430
    clear A430
    by_cases c44 : t503 = true
    ·subst c44
     have H1 := H; rw [if_pos rfl] at H1
     clear H
     have H := H1
     clear H1
     by_cases c45 : t465 = t469
     ·rw [if_pos c45] at H
      have c45b0 : (t465 == t469) = true := beq_iff_eq.mpr c45
      have c45b1 : (t465 != t469) = false := bne_eq_false_iff_eq.mpr c45
      clear c45
      replace H := bm.mp H
      obtain ⟨t504, A460, H⟩ := H
      (try dsimp only at H)
      have A46 := aa A460
      clear A460
      by_cases c47 : t504 = true
      ·subst c47
       have H1 := H; rw [if_pos rfl] at H1
       clear H
       have H := H1
       clear H1
       by_cases c48 : t479 = t483
       ·rw [if_pos c48] at H
        have c48b0 : (t479 == t483) = true := beq_iff_eq.mpr c48
        have c48b1 : (t479 != t483) = false := bne_eq_false_iff_eq.mpr c48
        clear c48
        by_cases c49 : (t478.length : Int) = (t482.length : Int)
        ·rw [if_pos c49] at H
         have c49b0 : ((t478.length : Int) == (t482.length : Int)) = true := beq_iff_eq.mpr c49
         have c49b1 : ((t478.length : Int) != (t482.length : Int)) = false := bne_eq_false_iff_eq.mpr c49
         have c49b2 : (t478.length == t482.length) = true := by first | simpa using c49 | (simp at c49 ⊢; omega)
         clear c49
         replace H := bm.mp H
         obtain ⟨t505, A500, H⟩ := H
         (try dsimp only at H)
         have A50 := aa A500
         clear A500
         by_cases c51 : t489.toList = t505.toList
         ·rw [if_pos c51] at H
          have c51b0 : (t489.toList == t505.toList) = true := beq_iff_eq.mpr c51
          have c51b1 : (t489.toList != t505.toList) = false := bne_eq_false_iff_eq.mpr c51
          clear c51
          by_cases c52 : (t496 != t500) = true
          ·rw [if_pos c52] at H
           have c52b0 : (t496 != t500) = true := c52
           (try (have c52b1 : decide (t496 = t500) = false := by simpa using c52))
           (try (have c52b2 : (t496 == t500) = false := by simpa using c52))
           (try (have c52b3 : ¬ (t496 = t500) := by simpa using c52))
           clear c52
           have H' := aa H
           clear H
           obtain ⟨Ao53, co53, eo53⟩ := ap HO453.out
           subst eo53
           obtain ⟨Ao54, co54, eo54⟩ := ap HO457.out
           subst eo54
           go_wp2_with (first | (go_at_call 52; (with_reducible refine (laws_f6ints.calls k _ _ t450 _ _ t454 true _ ?side1 ?side2 ?side3 ?side4 A43.out).mono ?_); (case side1 => repeat (first | exact (ai HO453.out).2.2 | (with_reducible refine ak ?_ _) | (with_reducible refine al ?_ _) | (with_reducible refine am ?_))); (case side2 => exact (ai HO453.out).2.1); (case side3 => repeat (first | exact (ai HO457.out).2.2 | (with_reducible refine ak ?_ _) | (with_reducible refine al ?_ _) | (with_reducible refine am ?_))); (case side4 => exact (ai HO457.out).2.1); rintro e w' ⟨rfl, ⟨nd, rfl⟩⟩; (try first | exact ⟨rfl, _, aj _ _ _⟩ | exact ⟨rfl, _, Eq.trans (aj _ _ _) (congrArg (World.drewN _) (Nat.add_assoc _ _ _))⟩); obtain ⟨Ao55, co55, eo55⟩ := ap HO467.out; subst eo55; obtain ⟨Ao56, co56, eo56⟩ := ap HO471.out; subst eo56) | (go_at_call 52; (with_reducible refine (laws_f6ints.calls k _ _ t464 _ _ t468 true _ ?side1 ?side2 ?side3 ?side4 A46.out).mono ?_); (case side1 => repeat (first | exact (ai HO467.out).2.2 | (with_reducible refine ak ?_ _) | (with_reducible refine al ?_ _) | (with_reducible refine am ?_))); (case side2 => exact (ai HO467.out).2.1); (case side3 => repeat (first | exact (ai HO471.out).2.2 | (with_reducible refine ak ?_ _) | (with_reducible refine al ?_ _) | (with_reducible refine am ?_))); (case side4 => exact (ai HO471.out).2.1); rintro e w' ⟨rfl, ⟨nd, rfl⟩⟩; (try first | exact ⟨rfl, _, aj _ _ _⟩ | exact ⟨rfl, _, Eq.trans (aj _ _ _) (congrArg (World.drewN _) (Nat.add_assoc _ _ _))⟩); obtain ⟨Ao57, co57, eo57⟩ := ap HO481.out; subst eo57; obtain ⟨Ao58, co58, eo58⟩ := ap HO485.out; subst eo58) | (go_at_call 19; (with_reducible refine (spec_StatesText.calls k _ _ t486 t505 _ ?side1 ?side2 A50.out).mono ?_); (case side1 => repeat (first | exact (ai HO488.out).2.2 | (with_reducible refine ak ?_ _) | (with_reducible refine al ?_ _) | (with_reducible refine am ?_))); (case side2 => exact (ai HO488.out).2.1); rintro e w' ⟨rfl, ⟨nd, rfl⟩⟩; (try first | exact ⟨rfl, _, aj _ _ _⟩ | exact ⟨rfl, _, Eq.trans (aj _ _ _) (congrArg (World.drewN _) (Nat.add_assoc _ _ _))⟩)))
           repeat (go_quiet (first | (go_at_call 52; (with_reducible refine (laws_f6ints.calls k _ _ t450 _ _ t454 true _ ?side1 ?side2 ?side3 ?side4 A43.out).mono ?_); (case side1 => repeat (first | exact (ai HO453.out).2.2 | (with_reducible refine ak ?_ _) | (with_reducible refine al ?_ _) | (with_reducible refine am ?_))); (case side2 => exact (ai HO453.out).2.1); (case side3 => repeat (first | exact (ai HO457.out).2.2 | (with_reducible refine ak ?_ _) | (with_reducible refine al ?_ _) | (with_reducible refine am ?_))); (case side4 => exact (ai HO457.out).2.1); rintro e w' ⟨rfl, ⟨nd, rfl⟩⟩; (try first | exact ⟨rfl, _, aj _ _ _⟩ | exact ⟨rfl, _, Eq.trans (aj _ _ _) (congrArg (World.drewN _) (Nat.add_assoc _ _ _))⟩); obtain ⟨Ao55, co55, eo55⟩ := ap HO467.out; subst eo55; obtain ⟨Ao56, co56, eo56⟩ := ap HO471.out; subst eo56) | (go_at_call 52; (with_reducible refine (laws_f6ints.calls k _ _ t464 _ _ t468 true _ ?side1 ?side2 ?side3 ?side4 A46.out).mono ?_); (case side1 => repeat (first | exact (ai HO467.out).2.2 | (with_reducible refine ak ?_ _) | (with_reducible refine al ?_ _) | (with_reducible refine am ?_))); (case side2 => exact (ai HO467.out).2.1); (case side3 => repeat (first | exact (ai HO471.out).2.2 | (with_reducible refine ak ?_ _) | (with_reducible refine al ?_ _) | (with_reducible refine am ?_))); (case side4 => exact (ai HO471.out).2.1); rintro e w' ⟨rfl, ⟨nd, rfl⟩⟩; (try first | exact ⟨rfl, _, aj _ _ _⟩ | exact ⟨rfl, _, Eq.trans (aj _ _ _) (congrArg (World.drewN _) (Nat.add_assoc _ _ _))⟩); obtain ⟨Ao57, co57, eo57⟩ := ap HO481.out; subst eo57; obtain ⟨Ao58, co58, eo58⟩ := ap HO485.out; subst eo58) | (go_at_call 19; (with_reducible refine (spec_StatesText.calls k _ _ t486 t505 _ ?side1 ?side2 A50.out).mono ?_); (case side1 => repeat (first | exact (ai HO488.out).2.2 | (with_reducible refine ak ?_ _) | (with_reducible refine al ?_ _) | (with_reducible refine am ?_))); (case side2 => exact (ai HO488.out).2.1); rintro e w' ⟨rfl, ⟨nd, rfl⟩⟩; (try first | exact ⟨rfl, _, aj _ _ _⟩ | exact ⟨rfl, _, Eq.trans (aj _ _ _) (congrArg (World.drewN _) (Nat.add_assoc _ _ _))⟩))); try go_wp2)
           go_meet
           case rel => exact ⟨_, (true), (by first | rfl | (simp; done) | (simp [*]; done)), H', ⟨by first | omega | exact Nat.le_refl _⟩, ⟨by (with_reducible repeat (first | apply ab | apply ac | apply af)); exact an HO447.out (fun _ hk => ⟨hk.1.1.1.1.1.1.1.1.1.2, ⟨hk.1.1.1.1.2, ⟨hk.1.1.1.2, hk.1.1.2⟩⟩⟩)⟩, ⟨by (with_reducible repeat (first | apply ab | apply ac | apply af)); exact an HO449.out (fun _ hk => ⟨hk.1.2, hk.2⟩)⟩, ⟨by (with_reducible repeat (first | apply ab | apply ac | apply af)); exact an HO453.out (fun _ hk => ⟨hk.1.1.1.1.1.1.1.1.1.2, ⟨hk.1.1.1.1.2, ⟨hk.1.1.1.2, hk.1.1.2⟩⟩⟩)⟩, ⟨by (with_reducible repeat (first | apply ab | apply ac | apply af)); exact an HO475.out (fun _ hk => ⟨hk.1.1.1.1.1.1.1.1.1.2, ⟨hk.1.1.1.1.1.1.1.1.2, ⟨hk.1.1.1.2, hk.1.1.2⟩⟩⟩)⟩, ⟨by (with_reducible repeat (first | apply ab | apply ac | apply af)); exact an HO481.out (fun _ hk => ⟨hk.1.1.2, hk.2⟩)⟩, ⟨by (with_reducible repeat (first | apply ab | apply ac | apply af)); exact an HO485.out (fun _ hk => ⟨hk.1.1.2, hk.2⟩)⟩, ⟨by (with_reducible repeat (first | apply ab | apply ac | apply af)); exact an HO488.out (fun _ hk => ⟨hk.1.1.1.1.1.1.1.1.1.2, ⟨hk.1.1.1.1.1.1.1.1.2, ⟨hk.1.1.1.2, hk.1.1.2⟩⟩⟩)⟩, ⟨by (with_reducible repeat (first | apply ab | apply ac | apply af)); exact an HO493.out (fun _ hk => ⟨hk.1.1.1.1.1.1.1.1.1.2, ⟨hk.1.1.1.1.1.1.1.1.2, ⟨hk.1.1.1.2, hk.1.1.2⟩⟩⟩)⟩, ⟨by repeat (first | (with_reducible first | exact HB.out | apply ah | apply ae | apply ag) | exact HB.out)⟩⟩
          ·rw [if_neg c52] at H
           have c52b0 : (t496 != t500) = false := by simpa using c52
           (try (have c52b1 : decide (t496 = t500) = true := by simpa using c52))
           (try (have c52b2 : (t496 == t500) = true := by simpa using c52))
           clear c52
           replace H := bm.mp H
           obtain ⟨t506, A590, H⟩ := H
           (try dsimp only at H)
           have A59 := aa A590
           clear A590
           by_cases c60 : t506 = true
           ·subst c60
            have H1 := H; rw [if_pos rfl] at H1
            clear H
            have H := H1
            clear H1
            replace H := bm.mp H
            obtain ⟨t507, A610, H⟩ := H
            (try dsimp only at H)
            have A61 := aa A610
            clear A610
            replace H := bm.mp H
            obtain ⟨t508, A620, H⟩ := H
            (try dsimp only at H)
            have A62 := aa A620
            clear A620
            have H' := aa H
            clear H
            obtain ⟨Ao63, co63, eo63⟩ := ap HO453.out
            subst eo63
            obtain ⟨Ao64, co64, eo64⟩ := ap HO457.out
            subst eo64
            go_wp2_with (first | (go_at_call 52; (with_reducible refine (laws_f6ints.calls k _ _ t450 _ _ t454 true _ ?side1 ?side2 ?side3 ?side4 A43.out).mono ?_); (case side1 => repeat (first | exact (ai HO453.out).2.2 | (with_reducible refine ak ?_ _) | (with_reducible refine al ?_ _) | (with_reducible refine am ?_))); (case side2 => exact (ai HO453.out).2.1); (case side3 => repeat (first | exact (ai HO457.out).2.2 | (with_reducible refine ak ?_ _) | (with_reducible refine al ?_ _) | (with_reducible refine am ?_))); (case side4 => exact (ai HO457.out).2.1); rintro e w' ⟨rfl, ⟨nd, rfl⟩⟩; (try first | exact ⟨rfl, _, aj _ _ _⟩ | exact ⟨rfl, _, Eq.trans (aj _ _ _) (congrArg (World.drewN _) (Nat.add_assoc _ _ _))⟩); obtain ⟨Ao65, co65, eo65⟩ := ap HO467.out; subst eo65; obtain ⟨Ao66, co66, eo66⟩ := ap HO471.out; subst eo66) | (go_at_call 52; (with_reducible refine (laws_f6ints.calls k _ _ t464 _ _ t468 true _ ?side1 ?side2 ?side3 ?side4 A46.out).mono ?_); (case side1 => repeat (first | exact (ai HO467.out).2.2 | (with_reducible refine ak ?_ _) | (with_reducible refine al ?_ _) | (with_reducible refine am ?_))); (case side2 => exact (ai HO467.out).2.1); (case side3 => repeat (first | exact (ai HO471.out).2.2 | (with_reducible refine ak ?_ _) | (with_reducible refine al ?_ _) | (with_reducible refine am ?_))); (case side4 => exact (ai HO471.out).2.1); rintro e w' ⟨rfl, ⟨nd, rfl⟩⟩; (try first | exact ⟨rfl, _, aj _ _ _⟩ | exact ⟨rfl, _, Eq.trans (aj _ _ _) (congrArg (World.drewN _) (Nat.add_assoc _ _ _))⟩); obtain ⟨Ao67, co67, eo67⟩ := ap HO481.out; subst eo67; obtain ⟨Ao68, co68, eo68⟩ := ap HO485.out; subst eo68) | (go_at_call 19; (with_reducible refine (spec_StatesText.calls k _ _ t486 t505 _ ?side1 ?side2 A50.out).mono ?_); (case side1 => repeat (first | exact (ai HO488.out).2.2 | (with_reducible refine ak ?_ _) | (with_reducible refine al ?_ _) | (with_reducible refine am ?_))); (case side2 => exact (ai HO488.out).2.1); rintro e w' ⟨rfl, ⟨nd, rfl⟩⟩; (try first | exact ⟨rfl, _, aj _ _ _⟩ | exact ⟨rfl, _, Eq.trans (aj _ _ _) (congrArg (World.drewN _) (Nat.add_assoc _ _ _))⟩); obtain ⟨Ao69, co69, eo69⟩ := ap HO498.out; subst eo69; obtain ⟨Ao70, co70, eo70⟩ := ap HO502.out; subst eo70) | (go_at_call 52; (with_reducible refine (laws_f6ints.calls k _ _ t495 _ _ t499 true _ ?side1 ?side2 ?side3 ?side4 A59.out).mono ?_); (case side1 => repeat (first | exact (ai HO498.out).2.2 | (with_reducible refine ak ?_ _) | (with_reducible refine al ?_ _) | (with_reducible refine am ?_))); (case side2 => exact (ai HO498.out).2.1); (case side3 => repeat (first | exact (ai HO502.out).2.2 | (with_reducible refine ak ?_ _) | (with_reducible refine al ?_ _) | (with_reducible refine am ?_))); (case side4 => exact (ai HO502.out).2.1); rintro e w' ⟨rfl, ⟨nd, rfl⟩⟩; (try first | exact ⟨rfl, _, aj _ _ _⟩ | exact ⟨rfl, _, Eq.trans (aj _ _ _) (congrArg (World.drewN _) (Nat.add_assoc _ _ _))⟩)) | (go_at_call 17; (with_reducible refine (impl_ValidStates.calls _ _ t444 t507 _ ?side1 ?side2 A61.out).mono ?_); (case side1 => repeat (first | exact (ai HO447.out).2.2 | (with_reducible refine ak ?_ _) | (with_reducible refine al ?_ _) | (with_reducible refine am ?_))); (case side2 => exact (ai HO447.out).2.1); rintro e w71 ⟨rfl, hb⟩; have n0_ := aa (aq (by (with_reducible repeat (first | apply ab | apply ac | apply af)); exact HO447.out) hb); have n1_ := aa (aq (by (with_reducible repeat (first | apply ab | apply ac | apply af)); exact HO449.out) hb); have n2_ := aa (aq (by (with_reducible repeat (first | apply ab | apply ac | apply af)); exact HO453.out) hb); have n3_ := aa (aq (by (with_reducible repeat (first | apply ab | apply ac | apply af)); exact HO457.out) hb); have n4_ := aa (aq (by (with_reducible repeat (first | apply ab | apply ac | apply af)); exact HO461.out) hb); have n5_ := aa (aq (by (with_reducible repeat (first | apply ab | apply ac | apply af)); exact HO463.out) hb); have n6_ := aa (aq (by (with_reducible repeat (first | apply ab | apply ac | apply af)); exact HO467.out) hb); have n7_ := aa (aq (by (with_reducible repeat (first | apply ab | apply ac | apply af)); exact HO471.out) hb); have n8_ := aa (aq (by (with_reducible repeat (first | apply ab | apply ac | apply af)); exact HO475.out) hb); have n9_ := aa (Kd.S_below (by (with_reducible repeat (first | apply Kd.S_alloc | apply Kd.S_drewN | apply Kd.S_drew)); exact HO477.out) hb); have n10_ := aa (aq (by (with_reducible repeat (first | apply ab | apply ac | apply af)); exact HO481.out) hb); have n11_ := aa (aq (by (with_reducible repeat (first | apply ab | apply ac | apply af)); exact HO485.out) hb); have n12_ := aa (aq (by (with_reducible repeat (first | apply ab | apply ac | apply af)); exact HO488.out) hb); have n13_ := aa (aq (by (with_reducible repeat (first | apply ab | apply ac | apply af)); exact HO493.out) hb); have n14_ := aa (aq (by (with_reducible repeat (first | apply ab | apply ac | apply af)); exact HO498.out) hb); have n15_ := aa (aq (by (with_reducible repeat (first | apply ab | apply ac | apply af)); exact HO502.out) hb); have n16_ := aa (ay (by repeat (first | (with_reducible first | exact HB.out | apply ah | apply ae | apply ag) | exact HB.out)) hb); clear HO447; clear HO449; clear HO453; clear HO457; clear HO461; clear HO463; clear HO467; clear HO471; clear HO475; clear HO477; clear HO481; clear HO485; clear HO488; clear HO493; clear HO498; clear HO502; clear HB; have HO447 := n0_; have HO449 := n1_; have HO453 := n2_; have HO457 := n3_; have HO461 := n4_; have HO463 := n5_; have HO467 := n6_; have HO471 := n7_; have HO475 := n8_; have HO477 := n9_; have HO481 := n10_; have HO485 := n11_; have HO488 := n12_; have HO493 := n13_; have HO498 := n14_; have HO502 := n15_; have HB := n16_; clear n0_ n1_ n2_ n3_ n4_ n5_ n6_ n7_ n8_ n9_ n10_ n11_ n12_ n13_ n14_ n15_ n16_; (try clear hb); (try clear hb2); (try clear hk); (try clear hi)) | (go_at_call 15; (with_reducible refine (spec_ValidStates.calls k _ _ t444 t508 _ ?side1 ?side2 A62.out).mono ?_); (case side1 => repeat (first | exact (ai HO447.out).2.2 | (with_reducible refine ak ?_ _) | (with_reducible refine al ?_ _) | (with_reducible refine am ?_))); (case side2 => exact (ai HO447.out).2.1); rintro e w' ⟨rfl, ⟨nd, rfl⟩⟩; (try first | exact ⟨rfl, _, aj _ _ _⟩ | exact ⟨rfl, _, Eq.trans (aj _ _ _) (congrArg (World.drewN _) (Nat.add_assoc _ _ _))⟩)))
            repeat (go_quiet (first | (go_at_call 52; (with_reducible refine (laws_f6ints.calls k _ _ t450 _ _ t454 true _ ?side1 ?side2 ?side3 ?side4 A43.out).mono ?_); (case side1 => repeat (first | exact (ai HO453.out).2.2 | (with_reducible refine ak ?_ _) | (with_reducible refine al ?_ _) | (with_reducible refine am ?_))); (case side2 => exact (ai HO453.out).2.1); (case side3 => repeat (first | exact (ai HO457.out).2.2 | (with_reducible refine ak ?_ _) | (with_reducible refine al ?_ _) | (with_reducible refine am ?_))); (case side4 => exact (ai HO457.out).2.1); rintro e w' ⟨rfl, ⟨nd, rfl⟩⟩; (try first | exact ⟨rfl, _, aj _ _ _⟩ | exact ⟨rfl, _, Eq.trans (aj _ _ _) (congrArg (World.drewN _) (Nat.add_assoc _ _ _))⟩); obtain ⟨Ao65, co65, eo65⟩ := ap HO467.out; subst eo65; obtain ⟨Ao66, co66, eo66⟩ := ap HO471.out; subst eo66) | (go_at_call 52; (with_reducible refine (laws_f6ints.calls k _ _ t464 _ _ t468 true _ ?side1 ?side2 ?side3 ?side4 A46.out).mono ?_); (case side1 => repeat (first | exact (ai HO467.out).2.2 | (with_reducible refine ak ?_ _) | (with_reducible refine al ?_ _) | (with_reducible refine am ?_))); (case side2 => exact (ai HO467.out).2.1); (case side3 => repeat (first | exact (ai HO471.out).2.2 | (with_reducible refine ak ?_ _) | (with_reducible refine al ?_ _) | (with_reducible refine am ?_))); (case side4 => exact (ai HO471.out).2.1); rintro e w' ⟨rfl, ⟨nd, rfl⟩⟩; (try first | exact ⟨rfl, _, aj _ _ _⟩ | exact ⟨rfl, _, Eq.trans (aj _ _ _) (congrArg (World.drewN _) (Nat.add_assoc _ _ _))⟩); obtain ⟨Ao67, co67, eo67⟩ := ap HO481.out; subst eo67; obtain ⟨Ao68, co68, eo68⟩ := ap HO485.out; subst eo68) | (go_at_call 19; (with_reducible refine (spec_StatesText.calls k _ _ t486 t505 _ ?side1 ?side2 A50.out).mono ?_); (case side1 => repeat (first | exact (ai HO488.out).2.2 | (with_reducible refine ak ?_ _) | (with_reducible refine al ?_ _) | (with_reducible refine am ?_))); (case side2 => exact (ai HO488.out).2.1); rintro e w' ⟨rfl, ⟨nd, rfl⟩⟩; (try first | exact ⟨rfl, _, aj _ _ _⟩ | exact ⟨rfl, _, Eq.trans (aj _ _ _) (congrArg (World.drewN _) (Nat.add_assoc _ _ _))⟩); obtain ⟨Ao69, co69, eo69⟩ := ap HO498.out; subst eo69; obtain ⟨Ao70, co70, eo70⟩ := ap HO502.out; subst eo70) | (go_at_call 52; (with_reducible refine (laws_f6ints.calls k _ _ t495 _ _ t499 true _ ?side1 ?side2 ?side3 ?side4 A59.out).mono ?_); (case side1 => repeat (first | exact (ai HO498.out).2.2 | (with_reducible refine ak ?_ _) | (with_reducible refine al ?_ _) | (with_reducible refine am ?_))); (case side2 => exact (ai HO498.out).2.1); (case side3 => repeat (first | exact (ai HO502.out).2.2 | (with_reducible refine ak ?_ _) | (with_reducible refine al ?_ _) | (with_reducible refine am ?_))); (case side4 => exact (ai HO502.out).2.1); rintro e w' ⟨rfl, ⟨nd, rfl⟩⟩; (try first | exact ⟨rfl, _, aj _ _ _⟩ | exact ⟨rfl, _, Eq.trans (aj _ _ _) (congrArg (World.drewN _) (Nat.add_assoc _ _ _))⟩)) | (go_at_call 17; (with_reducible refine (impl_ValidStates.calls _ _ t444 t507 _ ?side1 ?side2 A61.out).mono ?_); (case side1 => repeat (first | exact (ai HO447.out).2.2 | (with_reducible refine ak ?_ _) | (with_reducible refine al ?_ _) | (with_reducible refine am ?_))); (case side2 => exact (ai HO447.out).2.1); rintro e w71 ⟨rfl, hb⟩; have n0_ := aa (aq (by (with_reducible repeat (first | apply ab | apply ac | apply af)); exact HO447.out) hb); have n1_ := aa (aq (by (with_reducible repeat (first | apply ab | apply ac | apply af)); exact HO449.out) hb); have n2_ := aa (aq (by (with_reducible repeat (first | apply ab | apply ac | apply af)); exact HO453.out) hb); have n3_ := aa (aq (by (with_reducible repeat (first | apply ab | apply ac | apply af)); exact HO457.out) hb); have n4_ := aa (aq (by (with_reducible repeat (first | apply ab | apply ac | apply af)); exact HO461.out) hb); have n5_ := aa (aq (by (with_reducible repeat (first | apply ab | apply ac | apply af)); exact HO463.out) hb); have n6_ := aa (aq (by (with_reducible repeat (first | apply ab | apply ac | apply af)); exact HO467.out) hb); have n7_ := aa (aq (by (with_reducible repeat (first | apply ab | apply ac | apply af)); exact HO471.out) hb); have n8_ := aa (aq (by (with_reducible repeat (first | apply ab | apply ac | apply af)); exact HO475.out) hb); have n9_ := aa (Kd.S_below (by (with_reducible repeat (first | apply Kd.S_alloc | apply Kd.S_drewN | apply Kd.S_drew)); exact HO477.out) hb); have n10_ := aa (aq (by (with_reducible repeat (first | apply ab | apply ac | apply af)); exact HO481.out) hb); have n11_ := aa (aq (by (with_reducible repeat (first | apply ab | apply ac | apply af)); exact HO485.out) hb); have n12_ := aa (aq (by (with_reducible repeat (first | apply ab | apply ac | apply af)); exact HO488.out) hb); have n13_ := aa (aq (by (with_reducible repeat (first | apply ab | apply ac | apply af)); exact HO493.out) hb); have n14_ := aa (aq (by (with_reducible repeat (first | apply ab | apply ac | apply af)); exact HO498.out) hb); have n15_ := aa (aq (by (with_reducible repeat (first | apply ab | apply ac | apply af)); exact HO502.out) hb); have n16_ := aa (ay (by repeat (first | (with_reducible first | exact HB.out | apply ah | apply ae | apply ag) | exact HB.out)) hb); clear HO447; clear HO449; clear HO453; clear HO457; clear HO461; clear HO463; clear HO467; clear HO471; clear HO475; clear HO477; clear HO481; clear HO485; clear HO488; clear HO493; clear HO498; clear HO502; clear HB; have HO447 := n0_; have HO449 := n1_; have HO453 := n2_; have HO457 := n3_; have HO461 := n4_; have HO463 := n5_; have HO467 := n6_; have HO471 := n7_; have HO475 := n8_; have HO477 := n9_; have HO481 := n10_; have HO485 := n11_; have HO488 := n12_; have HO493 := n13_; have HO498 := n14_; have HO502 := n15_; have HB := n16_; clear n0_ n1_ n2_ n3_ n4_ n5_ n6_ n7_ n8_ n9_ n10_ n11_ n12_ n13_ n14_ n15_ n16_; (try clear hb); (try clear hb2); (try clear hk); (try clear hi)) | (go_at_call 15; (with_reducible refine (spec_ValidStates.calls k _ _ t444 t508 _ ?side1 ?side2 A62.out).mono ?_); (case side1 => repeat (first | exact (ai HO447.out).2.2 | (with_reducible refine ak ?_ _) | (with_reducible refine al ?_ _) | (with_reducible refine am ?_))); (case side2 => exact (ai HO447.out).2.1); rintro e w' ⟨rfl, ⟨nd, rfl⟩⟩; (try first | exact ⟨rfl, _, aj _ _ _⟩ | exact ⟨rfl, _, Eq.trans (aj _ _ _) (congrArg (World.drewN _) (Nat.add_assoc _ _ _))⟩))); try go_wp2)
            go_meet
            case rel => exact ⟨_, ((t507 != t508)), (by first | rfl | (simp; done) | (simp [*]; done)), H', ⟨by first | omega | exact Nat.le_refl _⟩, ⟨by (with_reducible repeat (first | apply ab | apply ac | apply af)); exact an HO447.out (fun _ hk => ⟨hk.1.1.1.1.1.1.1.1.1.2, ⟨hk.1.1.1.1.2, ⟨hk.1.1.1.2, hk.1.1.2⟩⟩⟩)⟩, ⟨by (with_reducible repeat (first | apply ab | apply ac | apply af)); exact an HO449.out (fun _ hk => ⟨hk.1.2, hk.2⟩)⟩, ⟨by (with_reducible repeat (first | apply ab | apply ac | apply af)); exact an HO453.out (fun _ hk => ⟨hk.1.1.1.1.1.1.1.1.1.2, ⟨hk.1.1.1.1.2, ⟨hk.1.1.1.2, hk.1.1.2⟩⟩⟩)⟩, ⟨by (with_reducible repeat (first | apply ab | apply ac | apply af)); exact an HO475.out (fun _ hk => ⟨hk.1.1.1.1.1.1.1.1.1.2, ⟨hk.1.1.1.1.1.1.1.1.2, ⟨hk.1.1.1.2, hk.1.1.2⟩⟩⟩)⟩, ⟨by (with_reducible repeat (first | apply ab | apply ac | apply af)); exact an HO481.out (fun _ hk => ⟨hk.1.1.2, hk.2⟩)⟩, ⟨by (with_reducible repeat (first | apply ab | apply ac | apply af)); exact an HO485.out (fun _ hk => ⟨hk.1.1.2, hk.2⟩)⟩, ⟨by (with_reducible repeat (first | apply ab | apply ac | apply af)); exact an HO488.out (fun _ hk => ⟨hk.1.1.1.1.1.1.1.1.1.2, ⟨hk.1.1.1.1.1.1.1.1.2, ⟨hk.1.1.1.2, hk.1.1.2⟩⟩⟩)⟩, ⟨by (with_reducible repeat (first | apply ab | apply ac | apply af)); exact an HO493.out (fun _ hk => ⟨hk.1.1.1.1.1.1.1.1.1.2, ⟨hk.1.1.1.1.1.1.1.1.2, ⟨hk.1.1.1.2, hk.1.1.2⟩⟩⟩)⟩, ⟨by repeat (first | (with_reducible first | exact HB.out | apply ah | apply ae | apply ag) | exact HB.out)⟩⟩
           ·replace c60 := Bool.eq_false_iff.mpr c60
            subst c60
            have H1 := H; rw [if_neg (show ¬ (false = true) by decide)] at H1
            clear H
            have H := H1
            clear H1
            have H' := aa H
            clear H
            obtain ⟨Ao72, co72, eo72⟩ := ap HO453.out
            subst eo72
            obtain ⟨Ao73, co73, eo73⟩ := ap HO457.out
            subst eo73
            go_wp2_with (first | (go_at_call 52; (with_reducible refine (laws_f6ints.calls k _ _ t450 _ _ t454 true _ ?side1 ?side2 ?side3 ?side4 A43.out).mono ?_); (case side1 => repeat (first | exact (ai HO453.out).2.2 | (with_reducible refine ak ?_ _) | (with_reducible refine al ?_ _) | (with_reducible refine am ?_))); (case side2 => exact (ai HO453.out).2.1); (case side3 => repeat (first | exact (ai HO457.out).2.2 | (with_reducible refine ak ?_ _) | (with_reducible refine al ?_ _) | (with_reducible refine am ?_))); (case side4 => exact (ai HO457.out).2.1); rintro e w' ⟨rfl, ⟨nd, rfl⟩⟩; (try first | exact ⟨rfl, _, aj _ _ _⟩ | exact ⟨rfl, _, Eq.trans (aj _ _ _) (congrArg (World.drewN _) (Nat.add_assoc _ _ _))⟩); obtain ⟨Ao74, co74, eo74⟩ := ap HO467.out; subst eo74; obtain ⟨Ao75, co75, eo75⟩ := ap HO471.out; subst eo75) | (go_at_call 52; (with_reducible refine (laws_f6ints.calls k _ _ t464 _ _ t468 true _ ?side1 ?side2 ?side3 ?side4 A46.out).mono ?_); (case side1 => repeat (first | exact (ai HO467.out).2.2 | (with_reducible refine ak ?_ _) | (with_reducible refine al ?_ _) | (with_reducible refine am ?_))); (case side2 => exact (ai HO467.out).2.1); (case side3 => repeat (first | exact (ai HO471.out).2.2 | (with_reducible refine ak ?_ _) | (with_reducible refine al ?_ _) | (with_reducible refine am ?_))); (case side4 => exact (ai HO471.out).2.1); rintro e w' ⟨rfl, ⟨nd, rfl⟩⟩; (try first | exact ⟨rfl, _, aj _ _ _⟩ | exact ⟨rfl, _, Eq.trans (aj _ _ _) (congrArg (World.drewN _) (Nat.add_assoc _ _ _))⟩); obtain ⟨Ao76, co76, eo76⟩ := ap HO481.out; subst eo76; obtain ⟨Ao77, co77, eo77⟩ := ap HO485.out; subst eo77) | (go_at_call 19; (with_reducible refine (spec_StatesText.calls k _ _ t486 t505 _ ?side1 ?side2 A50.out).mono ?_); (case side1 => repeat (first | exact (ai HO488.out).2.2 | (with_reducible refine ak ?_ _) | (with_reducible refine al ?_ _) | (with_reducible refine am ?_))); (case side2 => exact (ai HO488.out).2.1); rintro e w' ⟨rfl, ⟨nd, rfl⟩⟩; (try first | exact ⟨rfl, _, aj _ _ _⟩ | exact ⟨rfl, _, Eq.trans (aj _ _ _) (congrArg (World.drewN _) (Nat.add_assoc _ _ _))⟩); obtain ⟨Ao78, co78, eo78⟩ := ap HO498.out; subst eo78; obtain ⟨Ao79, co79, eo79⟩ := ap HO502.out; subst eo79) | (go_at_call 52; (with_reducible refine (laws_f6ints.calls k _ _ t495 _ _ t499 false _ ?side1 ?side2 ?side3 ?side4 A59.out).mono ?_); (case side1 => repeat (first | exact (ai HO498.out).2.2 | (with_reducible refine ak ?_ _) | (with_reducible refine al ?_ _) | (with_reducible refine am ?_))); (case side2 => exact (ai HO498.out).2.1); (case side3 => repeat (first | exact (ai HO502.out).2.2 | (with_reducible refine ak ?_ _) | (with_reducible refine al ?_ _) | (with_reducible refine am ?_))); (case side4 => exact (ai HO502.out).2.1); rintro e w' ⟨rfl, ⟨nd, rfl⟩⟩; (try first | exact ⟨rfl, _, aj _ _ _⟩ | exact ⟨rfl, _, Eq.trans (aj _ _ _) (congrArg (World.drewN _) (Nat.add_assoc _ _ _))⟩)))
            repeat (go_quiet (first | (go_at_call 52; (with_reducible refine (laws_f6ints.calls k _ _ t450 _ _ t454 true _ ?side1 ?side2 ?side3 ?side4 A43.out).mono ?_); (case side1 => repeat (first | exact (ai HO453.out).2.2 | (with_reducible refine ak ?_ _) | (with_reducible refine al ?_ _) | (with_reducible refine am ?_))); (case side2 => exact (ai HO453.out).2.1); (case side3 => repeat (first | exact (ai HO457.out).2.2 | (with_reducible refine ak ?_ _) | (with_reducible refine al ?_ _) | (with_reducible refine am ?_))); (case side4 => exact (ai HO457.out).2.1); rintro e w' ⟨rfl, ⟨nd, rfl⟩⟩; (try first | exact ⟨rfl, _, aj _ _ _⟩ | exact ⟨rfl, _, Eq.trans (aj _ _ _) (congrArg (World.drewN _) (Nat.add_assoc _ _ _))⟩); obtain ⟨Ao74, co74, eo74⟩ := ap HO467.out; subst eo74; obtain ⟨Ao75, co75, eo75⟩ := ap HO471.out; subst eo75) | (go_at_call 52; (with_reducible refine (laws_f6ints.calls k _ _ t464 _ _ t468 true _ ?side1 ?side2 ?side3 ?side4 A46.out).mono ?_); (case side1 => repeat (first | exact (ai HO467.out).2.2 | (with_reducible refine ak ?_ _) | (with_reducible refine al ?_ _) | (with_reducible refine am ?_))); (case side2 => exact (ai HO467.out).2.1); (case side3 => repeat (first | exact (ai HO471.out).2.2 | (with_reducible refine ak ?_ _) | (with_reducible refine al ?_ _) | (with_reducible refine am ?_))); (case side4 => exact (ai HO471.out).2.1); rintro e w' ⟨rfl, ⟨nd, rfl⟩⟩; (try first | exact ⟨rfl, _, aj _ _ _⟩ | exact ⟨rfl, _, Eq.trans (aj _ _ _) (congrArg (World.drewN _) (Nat.add_assoc _ _ _))⟩); obtain ⟨Ao76, co76, eo76⟩ := ap HO481.out; subst eo76; obtain ⟨Ao77, co77, eo77⟩ := ap HO485.out; subst eo77) | (go_at_call 19; (with_reducible refine (spec_StatesText.calls k _ _ t486 t505 _ ?side1 ?side2 A50.out).mono ?_); (case side1 => repeat (first | exact (ai HO488.out).2.2 | (with_reducible refine ak ?_ _) | (with_reducible refine al ?_ _) | (with_reducible refine am ?_))); (case side2 => exact (ai HO488.out).2.1); rintro e w' ⟨rfl, ⟨nd, rfl⟩⟩; (try first | exact ⟨rfl, _, aj _ _ _⟩ | exact ⟨rfl, _, Eq.trans (aj _ _ _) (congrArg (World.drewN _) (Nat.add_assoc _ _ _))⟩); obtain ⟨Ao78, co78, eo78⟩ := ap HO498.out; subst eo78; obtain ⟨Ao79, co79, eo79⟩ := ap HO502.out; subst eo79) | (go_at_call 52; (with_reducible refine (laws_f6ints.calls k _ _ t495 _ _ t499 false _ ?side1 ?side2 ?side3 ?side4 A59.out).mono ?_); (case side1 => repeat (first | exact (ai HO498.out).2.2 | (with_reducible refine ak ?_ _) | (with_reducible refine al ?_ _) | (with_reducible refine am ?_))); (case side2 => exact (ai HO498.out).2.1); (case side3 => repeat (first | exact (ai HO502.out).2.2 | (with_reducible refine ak ?_ _) | (with_reducible refine al ?_ _) | (with_reducible refine am ?_))); (case side4 => exact (ai HO502.out).2.1); rintro e w' ⟨rfl, ⟨nd, rfl⟩⟩; (try first | exact ⟨rfl, _, aj _ _ _⟩ | exact ⟨rfl, _, Eq.trans (aj _ _ _) (congrArg (World.drewN _) (Nat.add_assoc _ _ _))⟩))); try go_wp2)
            go_meet
            case rel => exact ⟨_, (true), (by first | rfl | (simp; done) | (simp [*]; done)), H', ⟨by first | omega | exact Nat.le_refl _⟩, ⟨by (with_reducible repeat (first | apply ab | apply ac | apply af)); exact an HO447.out (fun _ hk => ⟨hk.1.1.1.1.1.1.1.1.1.2, ⟨hk.1.1.1.1.2, ⟨hk.1.1.1.2, hk.1.1.2⟩⟩⟩)⟩, ⟨by (with_reducible repeat (first | apply ab | apply ac | apply af)); exact an HO449.out (fun _ hk => ⟨hk.1.2, hk.2⟩)⟩, ⟨by (with_reducible repeat (first | apply ab | apply ac | apply af)); exact an HO453.out (fun _ hk => ⟨hk.1.1.1.1.1.1.1.1.1.2, ⟨hk.1.1.1.1.2, ⟨hk.1.1.1.2, hk.1.1.2⟩⟩⟩)⟩, ⟨by (with_reducible repeat (first | apply ab | apply ac | apply af)); exact an HO475.out (fun _ hk => ⟨hk.1.1.1.1.1.1.1.1.1.2, ⟨hk.1.1.1.1.1.1.1.1.2, ⟨hk.1.1.1.2, hk.1.1.2⟩⟩⟩)⟩, ⟨by (with_reducible repeat (first | apply ab | apply ac | apply af)); exact an HO481.out (fun _ hk => ⟨hk.1.1.2, hk.2⟩)⟩, ⟨by (with_reducible repeat (first | apply ab | apply ac | apply af)); exact an HO485.out (fun _ hk => ⟨hk.1.1.2, hk.2⟩)⟩, ⟨by (with_reducible repeat (first | apply ab | apply ac | apply af)); exact an HO488.out (fun _ hk => ⟨hk.1.1.1.1.1.1.1.1.1.2, ⟨hk.1.1.1.1.1.1.1.1.2, ⟨hk.1.1.1.2, hk.1.1.2⟩⟩⟩)⟩, ⟨by (with_reducible repeat (first | apply ab | apply ac | apply af)); exact an HO493.out (fun _ hk => ⟨hk.1.1.1.1.1.1.1.1.1.2, ⟨hk.1.1.1.1.1.1.1.1.2, ⟨hk.1.1.1.2, hk.1.1.2⟩⟩⟩)⟩, ⟨by repeat (first | (with_reducible first | exact HB.out | apply ah | apply ae | apply ag) | exact HB.out)⟩⟩
         ·rw [if_neg c51] at H
          have c51b0 : (t489.toList == t505.toList) = false := beq_eq_false_iff_ne.mpr c51
          have c51b1 : (t489.toList != t505.toList) = true := bne_iff_ne.mpr c51
          have H' := aa H
          clear H
          obtain ⟨Ao80, co80, eo80⟩ := ap HO453.out
          subst eo80
          obtain ⟨Ao81, co81, eo81⟩ := ap HO457.out
          subst eo81
          go_wp2_with (first | (go_at_call 52; (with_reducible refine (laws_f6ints.calls k _ _ t450 _ _ t454 true _ ?side1 ?side2 ?side3 ?side4 A43.out).mono ?_); (case side1 => repeat (first | exact (ai HO453.out).2.2 | (with_reducible refine ak ?_ _) | (with_reducible refine al ?_ _) | (with_reducible refine am ?_))); (case side2 => exact (ai HO453.out).2.1); (case side3 => repeat (first | exact (ai HO457.out).2.2 | (with_reducible refine ak ?_ _) | (with_reducible refine al ?_ _) | (with_reducible refine am ?_))); (case side4 => exact (ai HO457.out).2.1); rintro e w' ⟨rfl, ⟨nd, rfl⟩⟩; (try first | exact ⟨rfl, _, aj _ _ _⟩ | exact ⟨rfl, _, Eq.trans (aj _ _ _) (congrArg (World.drewN _) (Nat.add_assoc _ _ _))⟩); obtain ⟨Ao82, co82, eo82⟩ := ap HO467.out; subst eo82; obtain ⟨Ao83, co83, eo83⟩ := ap HO471.out; subst eo83) | (go_at_call 52; (with_reducible refine (laws_f6ints.calls k _ _ t464 _ _ t468 true _ ?side1 ?side2 ?side3 ?side4 A46.out).mono ?_); (case side1 => repeat (first | exact (ai HO467.out).2.2 | (with_reducible refine ak ?_ _) | (with_reducible refine al ?_ _) | (with_reducible refine am ?_))); (case side2 => exact (ai HO467.out).2.1); (case side3 => repeat (first | exact (ai HO471.out).2.2 | (with_reducible refine ak ?_ _) | (with_reducible refine al ?_ _) | (with_reducible refine am ?_))); (case side4 => exact (ai HO471.out).2.1); rintro e w' ⟨rfl, ⟨nd, rfl⟩⟩; (try first | exact ⟨rfl, _, aj _ _ _⟩ | exact ⟨rfl, _, Eq.trans (aj _ _ _) (congrArg (World.drewN _) (Nat.add_assoc _ _ _))⟩); obtain ⟨Ao84, co84, eo84⟩ := ap HO481.out; subst eo84; obtain ⟨Ao85, co85, eo85⟩ := ap HO485.out; subst eo85) | (go_at_call 19; (with_reducible refine (spec_StatesText.calls k _ _ t486 t505 _ ?side1 ?side2 A50.out).mono ?_); (case side1 => repeat (first | exact (ai HO488.out).2.2 | (with_reducible refine ak ?_ _) | (with_reducible refine al ?_ _) | (with_reducible refine am ?_))); (case side2 => exact (ai HO488.out).2.1); rintro e w' ⟨rfl, ⟨nd, rfl⟩⟩; (try first | exact ⟨rfl, _, aj _ _ _⟩ | exact ⟨rfl, _, Eq.trans (aj _ _ _) (congrArg (World.drewN _) (Nat.add_assoc _ _ _))⟩)))
          repeat (go_quiet (first | (go_at_call 52; (with_reducible refine (laws_f6ints.calls k _ _ t450 _ _ t454 true _ ?side1 ?side2 ?side3 ?side4 A43.out).mono ?_); (case side1 => repeat (first | exact (ai HO453.out).2.2 | (with_reducible refine ak ?_ _) | (with_reducible refine al ?_ _) | (with_reducible refine am ?_))); (case side2 => exact (ai HO453.out).2.1); (case side3 => repeat (first | exact (ai HO457.out).2.2 | (with_reducible refine ak ?_ _) | (with_reducible refine al ?_ _) | (with_reducible refine am ?_))); (case side4 => exact (ai HO457.out).2.1); rintro e w' ⟨rfl, ⟨nd, rfl⟩⟩; (try first | exact ⟨rfl, _, aj _ _ _⟩ | exact ⟨rfl, _, Eq.trans (aj _ _ _) (congrArg (World.drewN _) (Nat.add_assoc _ _ _))⟩); obtain ⟨Ao82, co82, eo82⟩ := ap HO467.out; subst eo82; obtain ⟨Ao83, co83, eo83⟩ := ap HO471.out; subst eo83) | (go_at_call 52; (with_reducible refine (laws_f6ints.calls k _ _ t464 _ _ t468 true _ ?side1 ?side2 ?side3 ?side4 A46.out).mono ?_); (case side1 => repeat (first | exact (ai HO467.out).2.2 | (with_reducible refine ak ?_ _) | (with_reducible refine al ?_ _) | (with_reducible refine am ?_))); (case side2 => exact (ai HO467.out).2.1); (case side3 => repeat (first | exact (ai HO471.out).2.2 | (with_reducible refine ak ?_ _) | (with_reducible refine al ?_ _) | (with_reducible refine am ?_))); (case side4 => exact (ai HO471.out).2.1); rintro e w' ⟨rfl, ⟨nd, rfl⟩⟩; (try first | exact ⟨rfl, _, aj _ _ _⟩ | exact ⟨rfl, _, Eq.trans (aj _ _ _) (congrArg (World.drewN _) (Nat.add_assoc _ _ _))⟩); obtain ⟨Ao84, co84, eo84⟩ := ap HO481.out; subst eo84; obtain ⟨Ao85, co85, eo85⟩ := ap HO485.out; subst eo85) | (go_at_call 19; (with_reducible refine (spec_StatesText.calls k _ _ t486 t505 _ ?side1 ?side2 A50.out).mono ?_); (case side1 => repeat (first | exact (ai HO488.out).2.2 | (with_reducible refine ak ?_ _) | (with_reducible refine al ?_ _) | (with_reducible refine am ?_))); (case side2 => exact (ai HO488.out).2.1); rintro e w' ⟨rfl, ⟨nd, rfl⟩⟩; (try first | exact ⟨rfl, _, aj _ _ _⟩ | exact ⟨rfl, _, Eq.trans (aj _ _ _) (congrArg (World.drewN _) (Nat.add_assoc _ _ _))⟩))); try go_wp2)
          go_meet
          case rel => exact ⟨_, (true), (by first | rfl | (simp; done) | (simp [*]; done)), H', ⟨by first | omega | exact Nat.le_refl _⟩, ⟨by (with_reducible repeat (first | apply ab | apply ac | apply af)); exact an HO447.out (fun _ hk => ⟨hk.1.1.1.1.1.1.1.1.1.2, ⟨hk.1.1.1.1.2, ⟨hk.1.1.1.2, hk.1.1.2⟩⟩⟩)⟩, ⟨by (with_reducible repeat (first | apply ab | apply ac | apply af)); exact an HO449.out (fun _ hk => ⟨hk.1.2, hk.2⟩)⟩, ⟨by (with_reducible repeat (first | apply ab | apply ac | apply af)); exact an HO453.out (fun _ hk => ⟨hk.1.1.1.1.1.1.1.1.1.2, ⟨hk.1.1.1.1.2, ⟨hk.1.1.1.2, hk.1.1.2⟩⟩⟩)⟩, ⟨by (with_reducible repeat (first | apply ab | apply ac | apply af)); exact an HO475.out (fun _ hk => ⟨hk.1.1.1.1.1.1.1.1.1.2, ⟨hk.1.1.1.1.1.1.1.1.2, ⟨hk.1.1.1.2, hk.1.1.2⟩⟩⟩)⟩, ⟨by (with_reducible repeat (first | apply ab | apply ac | apply af)); exact an HO481.out (fun _ hk => ⟨hk.1.1.2, hk.2⟩)⟩, ⟨by (with_reducible repeat (first | apply ab | apply ac | apply af)); exact an HO485.out (fun _ hk => ⟨hk.1.1.2, hk.2⟩)⟩, ⟨by (with_reducible repeat (first | apply ab | apply ac | apply af)); exact an HO488.out (fun _ hk => ⟨hk.1.1.1.1.1.1.1.1.1.2, ⟨hk.1.1.1.1.1.1.1.1.2, ⟨hk.1.1.1.2, hk.1.1.2⟩⟩⟩)⟩, ⟨by (with_reducible repeat (first | apply ab | apply ac | apply af)); exact an HO493.out (fun _ hk => ⟨hk.1.1.1.1.1.1.1.1.1.2, ⟨hk.1.1.1.1.1.1.1.1.2, ⟨hk.1.1.1.2, hk.1.1.2⟩⟩⟩)⟩, ⟨by repeat (first | (with_reducible first | exact HB.out | apply ah | apply ae | apply ag) | exact HB.out)⟩⟩
        ·rw [if_neg c49] at H
         have c49b0 : ((t478.length : Int) == (t482.length : Int)) = false := beq_eq_false_iff_ne.mpr c49
         have c49b1 : ((t478.length : Int) != (t482.length : Int)) = true := bne_iff_ne.mpr c49
         have c49b2 : (t478.length == t482.length) = false := by first | simpa using c49 | (simp at c49 ⊢; omega)
         have H' := aa H
         clear H
         obtain ⟨Ao86, co86, eo86⟩ := ap HO453.out
         subst eo86
         obtain ⟨Ao87, co87, eo87⟩ := ap HO457.out
         subst eo87
         go_wp2_with (first | (go_at_call 52; (with_reducible refine (laws_f6ints.calls k _ _ t450 _ _ t454 true _ ?side1 ?side2 ?side3 ?side4 A43.out).mono ?_); (case side1 => repeat (first | exact (ai HO453.out).2.2 | (with_reducible refine ak ?_ _) | (with_reducible refine al ?_ _) | (with_reducible refine am ?_))); (case side2 => exact (ai HO453.out).2.1); (case side3 => repeat (first | exact (ai HO457.out).2.2 | (with_reducible refine ak ?_ _) | (with_reducible refine al ?_ _) | (with_reducible refine am ?_))); (case side4 => exact (ai HO457.out).2.1); rintro e w' ⟨rfl, ⟨nd, rfl⟩⟩; (try first | exact ⟨rfl, _, aj _ _ _⟩ | exact ⟨rfl, _, Eq.trans (aj _ _ _) (congrArg (World.drewN _) (Nat.add_assoc _ _ _))⟩); obtain ⟨Ao88, co88, eo88⟩ := ap HO467.out; subst eo88; obtain ⟨Ao89, co89, eo89⟩ := ap HO471.out; subst eo89) | (go_at_call 52; (with_reducible refine (laws_f6ints.calls k _ _ t464 _ _ t468 true _ ?side1 ?side2 ?side3 ?side4 A46.out).mono ?_); (case side1 => repeat (first | exact (ai HO467.out).2.2 | (with_reducible refine ak ?_ _) | (with_reducible refine al ?_ _) | (with_reducible refine am ?_))); (case side2 => exact (ai HO467.out).2.1); (case side3 => repeat (first | exact (ai HO471.out).2.2 | (with_reducible refine ak ?_ _) | (with_reducible refine al ?_ _) | (with_reducible refine am ?_))); (case side4 => exact (ai HO471.out).2.1); rintro e w' ⟨rfl, ⟨nd, rfl⟩⟩; (try first | exact ⟨rfl, _, aj _ _ _⟩ | exact ⟨rfl, _, Eq.trans (aj _ _ _) (congrArg (World.drewN _) (Nat.add_assoc _ _ _))⟩); obtain ⟨Ao90, co90, eo90⟩ := ap HO481.out; subst eo90; obtain ⟨Ao91, co91, eo91⟩ := ap HO485.out; subst eo91))
         repeat (go_quiet (first | (go_at_call 52; (with_reducible refine (laws_f6ints.calls k _ _ t450 _ _ t454 true _ ?side1 ?side2 ?side3 ?side4 A43.out).mono ?_); (case side1 => repeat (first | exact (ai HO453.out).2.2 | (with_reducible refine ak ?_ _) | (with_reducible refine al ?_ _) | (with_reducible refine am ?_))); (case side2 => exact (ai HO453.out).2.1); (case side3 => repeat (first | exact (ai HO457.out).2.2 | (with_reducible refine ak ?_ _) | (with_reducible refine al ?_ _) | (with_reducible refine am ?_))); (case side4 => exact (ai HO457.out).2.1); rintro e w' ⟨rfl, ⟨nd, rfl⟩⟩; (try first | exact ⟨rfl, _, aj _ _ _⟩ | exact ⟨rfl, _, Eq.trans (aj _ _ _) (congrArg (World.drewN _) (Nat.add_assoc _ _ _))⟩); obtain ⟨Ao88, co88, eo88⟩ := ap HO467.out; subst eo88; obtain ⟨Ao89, co89, eo89⟩ := ap HO471.out; subst eo89) | (go_at_call 52; (with_reducible refine (laws_f6ints.calls k _ _ t464 _ _ t468 true _ ?side1 ?side2 ?side3 ?side4 A46.out).mono ?_); (case side1 => repeat (first | exact (ai HO467.out).2.2 | (with_reducible refine ak ?_ _) | (with_reducible refine al ?_ _) | (with_reducible refine am ?_))); (case side2 => exact (ai HO467.out).2.1); (case side3 => repeat (first | exact (ai HO471.out).2.2 | (with_reducible refine ak ?_ _) | (with_reducible refine al ?_ _) | (with_reducible refine am ?_))); (case side4 => exact (ai HO471.out).2.1); rintro e w' ⟨rfl, ⟨nd, rfl⟩⟩; (try first | exact ⟨rfl, _, aj _ _ _⟩ | exact ⟨rfl, _, Eq.trans (aj _ _ _) (congrArg (World.drewN _) (Nat.add_assoc _ _ _))⟩); obtain ⟨Ao90, co90, eo90⟩ := ap HO481.out; subst eo90; obtain ⟨Ao91, co91, eo91⟩ := ap HO485.out; subst eo91)); try go_wp2)
         go_meet
         case rel => exact ⟨_, (true), (by first | rfl | (simp; done) | (simp [*]; done)), H', ⟨by first | omega | exact Nat.le_refl _⟩, ⟨by (with_reducible repeat (first | apply ab | apply ac | apply af)); exact an HO447.out (fun _ hk => ⟨hk.1.1.1.1.1.1.1.1.1.2, ⟨hk.1.1.1.1.2, ⟨hk.1.1.1.2, hk.1.1.2⟩⟩⟩)⟩, ⟨by (with_reducible repeat (first | apply ab | apply ac | apply af)); exact an HO449.out (fun _ hk => ⟨hk.1.2, hk.2⟩)⟩, ⟨by (with_reducible repeat (first | apply ab | apply ac | apply af)); exact an HO453.out (fun _ hk => ⟨hk.1.1.1.1.1.1.1.1.1.2, ⟨hk.1.1.1.1.2, ⟨hk.1.1.1.2, hk.1.1.2⟩⟩⟩)⟩, ⟨by (with_reducible repeat (first | apply ab | apply ac | apply af)); exact an HO475.out (fun _ hk => ⟨hk.1.1.1.1.1.1.1.1.1.2, ⟨hk.1.1.1.1.1.1.1.1.2, ⟨hk.1.1.1.2, hk.1.1.2⟩⟩⟩)⟩, ⟨by (with_reducible repeat (first | apply ab | apply ac | apply af)); exact an HO481.out (fun _ hk => ⟨hk.1.1.2, hk.2⟩)⟩, ⟨by (with_reducible repeat (first | apply ab | apply ac | apply af)); exact an HO485.out (fun _ hk => ⟨hk.1.1.2, hk.2⟩)⟩, ⟨by (with_reducible repeat (first | apply ab | apply ac | apply af)); exact an HO488.out (fun _ hk => ⟨hk.1.1.1.1.1.1.1.1.1.2, ⟨hk.1.1.1.1.1.1.1.1.2, ⟨hk.1.1.1.2, hk.1.1.2⟩⟩⟩)⟩, ⟨by (with_reducible repeat (first | apply ab | apply ac | apply af)); exact an HO493.out (fun _ hk => ⟨hk.1.1.1.1.1.1.1.1.1.2, ⟨hk.1.1.1.1.1.1.1.1.2, ⟨hk.1.1.1.2, hk.1.1.2⟩⟩⟩)⟩, ⟨by repeat (first | (with_reducible first | exact HB.out | apply ah | apply ae | apply ag) | exact HB.out)⟩⟩
       ·rw [if_neg c48] at H
        have c48b0 : (t479 == t483) = false := beq_eq_false_iff_ne.mpr c48
        have c48b1 : (t479 != t483) = true := bne_iff_ne.mpr c48
        have H' := aa H
        clear H
        obtain ⟨Ao92, co92, eo92⟩ := ap HO453.out
        subst eo92
        obtain ⟨Ao93, co93, eo93⟩ := ap HO457.out
        subst eo93
        go_wp2_with (first | (go_at_call 52; (with_reducible refine (laws_f6ints.calls k _ _ t450 _ _ t454 true _ ?side1 ?side2 ?side3 ?side4 A43.out).mono ?_); (case side1 => repeat (first | exact (ai HO453.out).2.2 | (with_reducible refine ak ?_ _) | (with_reducible refine al ?_ _) | (with_reducible refine am ?_))); (case side2 => exact (ai HO453.out).2.1); (case side3 => repeat (first | exact (ai HO457.out).2.2 | (with_reducible refine ak ?_ _) | (with_reducible refine al ?_ _) | (with_reducible refine am ?_))); (case side4 => exact (ai HO457.out).2.1); rintro e w' ⟨rfl, ⟨nd, rfl⟩⟩; (try first | exact ⟨rfl, _, aj _ _ _⟩ | exact ⟨rfl, _, Eq.trans (aj _ _ _) (congrArg (World.drewN _) (Nat.add_assoc _ _ _))⟩); obtain ⟨Ao94, co94, eo94⟩ := ap HO467.out; subst eo94; obtain ⟨Ao95, co95, eo95⟩ := ap HO471.out; subst eo95) | (go_at_call 52; (with_reducible refine (laws_f6ints.calls k _ _ t464 _ _ t468 true _ ?side1 ?side2 ?side3 ?side4 A46.out).mono ?_); (case side1 => repeat (first | exact (ai HO467.out).2.2 | (with_reducible refine ak ?_ _) | (with_reducible refine al ?_ _) | (with_reducible refine am ?_))); (case side2 => exact (ai HO467.out).2.1); (case side3 => repeat (first | exact (ai HO471.out).2.2 | (with_reducible refine ak ?_ _) | (with_reducible refine al ?_ _) | (with_reducible refine am ?_))); (case side4 => exact (ai HO471.out).2.1); rintro e w' ⟨rfl, ⟨nd, rfl⟩⟩; (try first | exact ⟨rfl, _, aj _ _ _⟩ | exact ⟨rfl, _, Eq.trans (aj _ _ _) (congrArg (World.drewN _) (Nat.add_assoc _ _ _))⟩)))
        repeat (go_quiet (first | (go_at_call 52; (with_reducible refine (laws_f6ints.calls k _ _ t450 _ _ t454 true _ ?side1 ?side2 ?side3 ?side4 A43.out).mono ?_); (case side1 => repeat (first | exact (ai HO453.out).2.2 | (with_reducible refine ak ?_ _) | (with_reducible refine al ?_ _) | (with_reducible refine am ?_))); (case side2 => exact (ai HO453.out).2.1); (case side3 => repeat (first | exact (ai HO457.out).2.2 | (with_reducible refine ak ?_ _) | (with_reducible refine al ?_ _) | (with_reducible refine am ?_))); (case side4 => exact (ai HO457.out).2.1); rintro e w' ⟨rfl, ⟨nd, rfl⟩⟩; (try first | exact ⟨rfl, _, aj _ _ _⟩ | exact ⟨rfl, _, Eq.trans (aj _ _ _) (congrArg (World.drewN _) (Nat.add_assoc _ _ _))⟩); obtain ⟨Ao94, co94, eo94⟩ := ap HO467.out; subst eo94; obtain ⟨Ao95, co95, eo95⟩ := ap HO471.out; subst eo95) | (go_at_call 52; (with_reducible refine (laws_f6ints.calls k _ _ t464 _ _ t468 true _ ?side1 ?side2 ?side3 ?side4 A46.out).mono ?_); (case side1 => repeat (first | exact (ai HO467.out).2.2 | (with_reducible refine ak ?_ _) | (with_reducible refine al ?_ _) | (with_reducible refine am ?_))); (case side2 => exact (ai HO467.out).2.1); (case side3 => repeat (first | exact (ai HO471.out).2.2 | (with_reducible refine ak ?_ _) | (with_reducible refine al ?_ _) | (with_reducible refine am ?_))); (case side4 => exact (ai HO471.out).2.1); rintro e w' ⟨rfl, ⟨nd, rfl⟩⟩; (try first | exact ⟨rfl, _, aj _ _ _⟩ | exact ⟨rfl, _, Eq.trans (aj _ _ _) (congrArg (World.drewN _) (Nat.add_assoc _ _ _))⟩))); try go_wp2)
        go_meet
        case rel => exact ⟨_, (true), (by first | rfl | (simp; done) | (simp [*]; done)), H', ⟨by first | omega | exact Nat.le_refl _⟩, ⟨by (with_reducible repeat (first | apply ab | apply ac | apply af)); exact an HO447.out (fun _ hk => ⟨hk.1.1.1.1.1.1.1.1.1.2, ⟨hk.1.1.1.1.2, ⟨hk.1.1.1.2, hk.1.1.2⟩⟩⟩)⟩, ⟨by (with_reducible repeat (first | apply ab | apply ac | apply af)); exact an HO449.out (fun _ hk => ⟨hk.1.2, hk.2⟩)⟩, ⟨by (with_reducible repeat (first | apply ab | apply ac | apply af)); exact an HO453.out (fun _ hk => ⟨hk.1.1.1.1.1.1.1.1.1.2, ⟨hk.1.1.1.1.2, ⟨hk.1.1.1.2, hk.1.1.2⟩⟩⟩)⟩, ⟨by (with_reducible repeat (first | apply ab | apply ac | apply af)); exact an HO475.out (fun _ hk => ⟨hk.1.1.1.1.1.1.1.1.1.2, ⟨hk.1.1.1.1.1.1.1.1.2, ⟨hk.1.1.1.2, hk.1.1.2⟩⟩⟩)⟩, ⟨by (with_reducible repeat (first | apply ab | apply ac | apply af)); exact an HO481.out (fun _ hk => ⟨hk.1.1.2, hk.2⟩)⟩, ⟨by (with_reducible repeat (first | apply ab | apply ac | apply af)); exact an HO485.out (fun _ hk => ⟨hk.1.1.2, hk.2⟩)⟩, ⟨by (with_reducible repeat (first | apply ab | apply ac | apply af)); exact an HO488.out (fun _ hk => ⟨hk.1.1.1.1.1.1.1.1.1.2, ⟨hk.1.1.1.1.1.1.1.1.2, ⟨hk.1.1.1.2, hk.1.1.2⟩⟩⟩)⟩, ⟨by (with_reducible repeat (first | apply ab | apply ac | apply af)); exact an HO493.out (fun _ hk => ⟨hk.1.1.1.1.1.1.1.1.1.2, ⟨hk.1.1.1.1.1.1.1.1.2, ⟨hk.1.1.1.2, hk.1.1.2⟩⟩⟩)⟩, ⟨by repeat (first | (with_reducible first | exact HB.out | apply ah | apply ae | apply ag) | exact HB.out)⟩⟩
      ·replace c47 := Bool.eq_false_iff.mpr c47
       subst c47
       have H1 := H; rw [if_neg (show ¬ (false = true) by decide)] at H1
       clear H
       have H := H1
       clear H1
       have H' := aa H
       clear H
       obtain ⟨Ao96, co96, eo96⟩ := ap HO453.out
       subst eo96
       obtain ⟨Ao97, co97, eo97⟩ := ap HO457.out
       subst eo97
       go_wp2_with (first | (go_at_call 52; (with_reducible refine (laws_f6ints.calls k _ _ t450 _ _ t454 true _ ?side1 ?side2 ?side3 ?side4 A43.out).mono ?_); (case side1 => repeat (first | exact (ai HO453.out).2.2 | (with_reducible refine ak ?_ _) | (with_reducible refine al ?_ _) | (with_reducible refine am ?_))); (case side2 => exact (ai HO453.out).2.1); (case side3 => repeat (first | exact (ai HO457.out).2.2 | (with_reducible refine ak ?_ _) | (with_reducible refine al ?_ _) | (with_reducible refine am ?_))); (case side4 => exact (ai HO457.out).2.1); rintro e w' ⟨rfl, ⟨nd, rfl⟩⟩; (try first | exact ⟨rfl, _, aj _ _ _⟩ | exact ⟨rfl, _, Eq.trans (aj _ _ _) (congrArg (World.drewN _) (Nat.add_assoc _ _ _))⟩); obtain ⟨Ao98, co98, eo98⟩ := ap HO467.out; subst eo98; obtain ⟨Ao99, co99, eo99⟩ := ap HO471.out; subst eo99) | (go_at_call 52; (with_reducible refine (laws_f6ints.calls k _ _ t464 _ _ t468 false _ ?side1 ?side2 ?side3 ?side4 A46.out).mono ?_); (case side1 => repeat (first | exact (ai HO467.out).2.2 | (with_reducible refine ak ?_ _) | (with_reducible refine al ?_ _) | (with_reducible refine am ?_))); (case side2 => exact (ai HO467.out).2.1); (case side3 => repeat (first | exact (ai HO471.out).2.2 | (with_reducible refine ak ?_ _) | (with_reducible refine al ?_ _) | (with_reducible refine am ?_))); (case side4 => exact (ai HO471.out).2.1); rintro e w' ⟨rfl, ⟨nd, rfl⟩⟩; (try first | exact ⟨rfl, _, aj _ _ _⟩ | exact ⟨rfl, _, Eq.trans (aj _ _ _) (congrArg (World.drewN _) (Nat.add_assoc _ _ _))⟩)))
       repeat (go_quiet (first | (go_at_call 52; (with_reducible refine (laws_f6ints.calls k _ _ t450 _ _ t454 true _ ?side1 ?side2 ?side3 ?side4 A43.out).mono ?_); (case side1 => repeat (first | exact (ai HO453.out).2.2 | (with_reducible refine ak ?_ _) | (with_reducible refine al ?_ _) | (with_reducible refine am ?_))); (case side2 => exact (ai HO453.out).2.1); (case side3 => repeat (first | exact (ai HO457.out).2.2 | (with_reducible refine ak ?_ _) | (with_reducible refine al ?_ _) | (with_reducible refine am ?_))); (case side4 => exact (ai HO457.out).2.1); rintro e w' ⟨rfl, ⟨nd, rfl⟩⟩; (try first | exact ⟨rfl, _, aj _ _ _⟩ | exact ⟨rfl, _, Eq.trans (aj _ _ _) (congrArg (World.drewN _) (Nat.add_assoc _ _ _))⟩); obtain ⟨Ao98, co98, eo98⟩ := ap HO467.out; subst eo98; obtain ⟨Ao99, co99, eo99⟩ := ap HO471.out; subst eo99) | (go_at_call 52; (with_reducible refine (laws_f6ints.calls k _ _ t464 _ _ t468 false _ ?side1 ?side2 ?side3 ?side4 A46.out).mono ?_); (case side1 => repeat (first | exact (ai HO467.out).2.2 | (with_reducible refine ak ?_ _) | (with_reducible refine al ?_ _) | (with_reducible refine am ?_))); (case side2 => exact (ai HO467.out).2.1); (case side3 => repeat (first | exact (ai HO471.out).2.2 | (with_reducible refine ak ?_ _) | (with_reducible refine al ?_ _) | (with_reducible refine am ?_))); (case side4 => exact (ai HO471.out).2.1); rintro e w' ⟨rfl, ⟨nd, rfl⟩⟩; (try first | exact ⟨rfl, _, aj _ _ _⟩ | exact ⟨rfl, _, Eq.trans (aj _ _ _) (congrArg (World.drewN _) (Nat.add_assoc _ _ _))⟩))); try go_wp2)
       go_meet
       case rel => exact ⟨_, (true), (by first | rfl | (simp; done) | (simp [*]; done)), H', ⟨by first | omega | exact Nat.le_refl _⟩, ⟨by (with_reducible repeat (first | apply ab | apply ac | apply af)); exact an HO447.out (fun _ hk => ⟨hk.1.1.1.1.1.1.1.1.1.2, ⟨hk.1.1.1.1.2, ⟨hk.1.1.1.2, hk.1.1.2⟩⟩⟩)⟩, ⟨by (with_reducible repeat (first | apply ab | apply ac | apply af)); exact an HO449.out (fun _ hk => ⟨hk.1.2, hk.2⟩)⟩, ⟨by (with_reducible repeat (first | apply ab | apply ac | apply af)); exact an HO453.out (fun _ hk => ⟨hk.1.1.1.1.1.1.1.1.1.2, ⟨hk.1.1.1.1.2, ⟨hk.1.1.1.2, hk.1.1.2⟩⟩⟩)⟩, ⟨by (with_reducible repeat (first | apply ab | apply ac | apply af)); exact an HO475.out (fun _ hk => ⟨hk.1.1.1.1.1.1.1.1.1.2, ⟨hk.1.1.1.1.1.1.1.1.2, ⟨hk.1.1.1.2, hk.1.1.2⟩⟩⟩)⟩, ⟨by (with_reducible repeat (first | apply ab | apply ac | apply af)); exact an HO481.out (fun _ hk => ⟨hk.1.1.2, hk.2⟩)⟩, ⟨by (with_reducible repeat (first | apply ab | apply ac | apply af)); exact an HO485.out (fun _ hk => ⟨hk.1.1.2, hk.2⟩)⟩, ⟨by (with_reducible repeat (first | apply ab | apply ac | apply af)); exact an HO488.out (fun _ hk => ⟨hk.1.1.1.1.1.1.1.1.1.2, ⟨hk.1.1.1.1.1.1.1.1.2, ⟨hk.1.1.1.2, hk.1.1.2⟩⟩⟩)⟩, ⟨by (with_reducible repeat (first | apply ab | apply ac | apply af)); exact an HO493.out (fun _ hk => ⟨hk.1.1.1.1.1.1.1.1.1.2, ⟨hk.1.1.1.1.1.1.1.1.2, ⟨hk.1.1.1.2, hk.1.1.2⟩⟩⟩)⟩, ⟨by repeat (first | (with_reducible first | exact HB.out | apply ah | apply ae | apply ag) | exact HB.out)⟩⟩
     ·rw [if_neg c45] at H
      have c45b0 : (t465 == t469) = false := beq_eq_false_iff_ne.mpr c45
      have c45b1 : (t465 != t469) = true := bne_iff_ne.mpr c45
      have H' := aa H
      clear H
      obtain ⟨Ao100, co100, eo100⟩ := ap HO453.out
      subst eo100
      obtain ⟨Ao101, co101, eo101⟩ := ap HO457.out
      subst eo101
      go_wp2_with (first | (go_at_call 52; (with_reducible refine (laws_f6ints.calls k _ _ t450 _ _ t454 true _ ?side1 ?side2 ?side3 ?side4 A43.out).mono ?_); (case side1 => repeat (first | exact (ai HO453.out).2.2 | (with_reducible refine ak ?_ _) | (with_reducible refine al ?_ _) | (with_reducible refine am ?_))); (case side2 => exact (ai HO453.out).2.1); (case side3 => repeat (first | exact (ai HO457.out).2.2 | (with_reducible refine ak ?_ _) | (with_reducible refine al ?_ _) | (with_reducible refine am ?_))); (case side4 => exact (ai HO457.out).2.1); rintro e w' ⟨rfl, ⟨nd, rfl⟩⟩; (try first | exact ⟨rfl, _, aj _ _ _⟩ | exact ⟨rfl, _, Eq.trans (aj _ _ _) (congrArg (World.drewN _) (Nat.add_assoc _ _ _))⟩)))
      repeat (go_quiet (first | (go_at_call 52; (with_reducible refine (laws_f6ints.calls k _ _ t450 _ _ t454 true _ ?side1 ?side2 ?side3 ?side4 A43.out).mono ?_); (case side1 => repeat (first | exact (ai HO453.out).2.2 | (with_reducible refine ak ?_ _) | (with_reducible refine al ?_ _) | (with_reducible refine am ?_))); (case side2 => exact (ai HO453.out).2.1); (case side3 => repeat (first | exact (ai HO457.out).2.2 | (with_reducible refine ak ?_ _) | (with_reducible refine al ?_ _) | (with_reducible refine am ?_))); (case side4 => exact (ai HO457.out).2.1); rintro e w' ⟨rfl, ⟨nd, rfl⟩⟩; (try first | exact ⟨rfl, _, aj _ _ _⟩ | exact ⟨rfl, _, Eq.trans (aj _ _ _) (congrArg (World.drewN _) (Nat.add_assoc _ _ _))⟩))); try go_wp2)
      go_meet
      case rel => exact ⟨_, (true), (by first | rfl | (simp; done) | (simp [*]; done)), H', ⟨by first | omega | exact Nat.le_refl _⟩, ⟨by (with_reducible repeat (first | apply ab | apply ac | apply af)); exact an HO447.out (fun _ hk => ⟨hk.1.1.1.1.1.1.1.1.1.2, ⟨hk.1.1.1.1.2, ⟨hk.1.1.1.2, hk.1.1.2⟩⟩⟩)⟩, ⟨by (with_reducible repeat (first | apply ab | apply ac | apply af)); exact an HO449.out (fun _ hk => ⟨hk.1.2, hk.2⟩)⟩, ⟨by (with_reducible repeat (first | apply ab | apply ac | apply af)); exact an HO453.out (fun _ hk => ⟨hk.1.1.1.1.1.1.1.1.1.2, ⟨hk.1.1.1.1.2, ⟨hk.1.1.1.2, hk.1.1.2⟩⟩⟩)⟩, ⟨by (with_reducible repeat (first | apply ab | apply ac | apply af)); exact an HO475.out (fun _ hk => ⟨hk.1.1.1.1.1.1.1.1.1.2, ⟨hk.1.1.1.1.1.1.1.1.2, ⟨hk.1.1.1.2, hk.1.1.2⟩⟩⟩)⟩, ⟨by (with_reducible repeat (first | apply ab | apply ac | apply af)); exact an HO481.out (fun _ hk => ⟨hk.1.1.2, hk.2⟩)⟩, ⟨by (with_reducible repeat (first | apply ab | apply ac | apply af)); exact an HO485.out (fun _ hk => ⟨hk.1.1.2, hk.2⟩)⟩, ⟨by (with_reducible repeat (first | apply ab | apply ac | apply af)); exact an HO488.out (fun _ hk => ⟨hk.1.1.1.1.1.1.1.1.1.2, ⟨hk.1.1.1.1.1.1.1.1.2, ⟨hk.1.1.1.2, hk.1.1.2⟩⟩⟩)⟩, ⟨by (with_reducible repeat (first | apply ab | apply ac | apply af)); exact an HO493.out (fun _ hk => ⟨hk.1.1.1.1.1.1.1.1.1.2, ⟨hk.1.1.1.1.1.1.1.1.2, ⟨hk.1.1.1.2, hk.1.1.2⟩⟩⟩)⟩, ⟨by repeat (first | (with_reducible first | exact HB.out | apply ah | apply ae | apply ag) | exact HB.out)⟩⟩
    ·replace c44 := Bool.eq_false_iff.mpr c44
     subst c44
     have H1 := H; rw [if_neg (show ¬ (false = true) by decide)] at H1
     clear H
     have H := H1
     clear H1
     have H' := aa H
     clear H
     obtain ⟨Ao102, co102, eo102⟩ := ap HO453.out
     subst eo102
     obtain ⟨Ao103, co103, eo103⟩ := ap HO457.out
     subst eo103
     go_wp2_with (first | (go_at_call 52; (with_reducible refine (laws_f6ints.calls k _ _ t450 _ _ t454 false _ ?side1 ?side2 ?side3 ?side4 A43.out).mono ?_); (case side1 => repeat (first | exact (ai HO453.out).2.2 | (with_reducible refine ak ?_ _) | (with_reducible refine al ?_ _) | (with_reducible refine am ?_))); (case side2 => exact (ai HO453.out).2.1); (case side3 => repeat (first | exact (ai HO457.out).2.2 | (with_reducible refine ak ?_ _) | (with_reducible refine al ?_ _) | (with_reducible refine am ?_))); (case side4 => exact (ai HO457.out).2.1); rintro e w' ⟨rfl, ⟨nd, rfl⟩⟩; (try first | exact ⟨rfl, _, aj _ _ _⟩ | exact ⟨rfl, _, Eq.trans (aj _ _ _) (congrArg (World.drewN _) (Nat.add_assoc _ _ _))⟩)))
     repeat (go_quiet (first | (go_at_call 52; (with_reducible refine (laws_f6ints.calls k _ _ t450 _ _ t454 false _ ?side1 ?side2 ?side3 ?side4 A43.out).mono ?_); (case side1 => repeat (first | exact (ai HO453.out).2.2 | (with_reducible refine ak ?_ _) | (with_reducible refine al ?_ _) | (with_reducible refine am ?_))); (case side2 => exact (ai HO453.out).2.1); (case side3 => repeat (first | exact (ai HO457.out).2.2 | (with_reducible refine ak ?_ _) | (with_reducible refine al ?_ _) | (with_reducible refine am ?_))); (case side4 => exact (ai HO457.out).2.1); rintro e w' ⟨rfl, ⟨nd, rfl⟩⟩; (try first | exact ⟨rfl, _, aj _ _ _⟩ | exact ⟨rfl, _, Eq.trans (aj _ _ _) (congrArg (World.drewN _) (Nat.add_assoc _ _ _))⟩))); try go_wp2)
     go_meet
     case rel => exact ⟨_, (true), (by first | rfl | (simp; done) | (simp [*]; done)), H', ⟨by first | omega | exact Nat.le_refl _⟩, ⟨by (with_reducible repeat (first | apply ab | apply ac | apply af)); exact an HO447.out (fun _ hk => ⟨hk.1.1.1.1.1.1.1.1.1.2, ⟨hk.1.1.1.1.2, ⟨hk.1.1.1.2, hk.1.1.2⟩⟩⟩)⟩, ⟨by (with_reducible repeat (first | apply ab | apply ac | apply af)); exact an HO449.out (fun _ hk => ⟨hk.1.2, hk.2⟩)⟩, ⟨by (with_reducible repeat (first | apply ab | apply ac | apply af)); exact an HO453.out (fun _ hk => ⟨hk.1.1.1.1.1.1.1.1.1.2, ⟨hk.1.1.1.1.2, ⟨hk.1.1.1.2, hk.1.1.2⟩⟩⟩)⟩, ⟨by (with_reducible repeat (first | apply ab | apply ac | apply af)); exact an HO475.out (fun _ hk => ⟨hk.1.1.1.1.1.1.1.1.1.2, ⟨hk.1.1.1.1.1.1.1.1.2, ⟨hk.1.1.1.2, hk.1.1.2⟩⟩⟩)⟩, ⟨by (with_reducible repeat (first | apply ab | apply ac | apply af)); exact an HO481.out (fun _ hk => ⟨hk.1.1.2, hk.2⟩)⟩, ⟨by (with_reducible repeat (first | apply ab | apply ac | apply af)); exact an HO485.out (fun _ hk => ⟨hk.1.1.2, hk.2⟩)⟩, ⟨by (with_reducible repeat (first | apply ab | apply ac | apply af)); exact an HO488.out (fun _ hk => ⟨hk.1.1.1.1.1.1.1.1.1.2, ⟨hk.1.1.1.1.1.1.1.1.2, ⟨hk.1.1.1.2, hk.1.1.2⟩⟩⟩)⟩, ⟨by (with_reducible repeat (first | apply ab | apply ac | apply af)); exact an HO493.out (fun _ hk => ⟨hk.1.1.1.1.1.1.1.1.1.2, ⟨hk.1.1.1.1.1.1.1.1.2, ⟨hk.1.1.1.2, hk.1.1.2⟩⟩⟩)⟩, ⟨by repeat (first | (with_reducible first | exact HB.out | apply ah | apply ae | apply ag) | exact HB.out)⟩⟩
   ·rw [if_neg c42] at H
    have c42b0 : (t451 == t455) = false := beq_eq_false_iff_ne.mpr c42
    have c42b1 : (t451 != t455) = true := bne_iff_ne.mpr c42
    (first | rw [c42b0] | (simp only [i64_w, i32_w]; rw [c42b0]) | skip)
    have H' := aa H
    clear H
    go_wp2
    repeat (go_quiet (fail); try go_wp2)
    go_meet
    case rel => exact ⟨_, (true), (by first | rfl | (simp; done) | (simp [*]; done)), H', ⟨by first | omega | exact Nat.le_refl _⟩, ⟨by (with_reducible repeat (first | apply ab | apply ac | apply af)); exact an HO447.out (fun _ hk => ⟨hk.1.1.1.1.1.1.1.1.1.2, ⟨hk.1.1.1.1.2, ⟨hk.1.1.1.2, hk.1.1.2⟩⟩⟩)⟩, ⟨by (with_reducible repeat (first | apply ab | apply ac | apply af)); exact an HO449.out (fun _ hk => ⟨hk.1.2, hk.2⟩)⟩, ⟨by (with_reducible repeat (first | apply ab | apply ac | apply af)); exact an HO453.out (fun _ hk => ⟨hk.1.1.1.1.1.1.1.1.1.2, ⟨hk.1.1.1.1.2, ⟨hk.1.1.1.2, hk.1.1.2⟩⟩⟩)⟩, ⟨by (with_reducible repeat (first | apply ab | apply ac | apply af)); exact an HO475.out (fun _ hk => ⟨hk.1.1.1.1.1.1.1.1.1.2, ⟨hk.1.1.1.1.1.1.1.1.2, ⟨hk.1.1.1.2, hk.1.1.2⟩⟩⟩)⟩, ⟨by (with_reducible repeat (first | apply ab | apply ac | apply af)); exact an HO481.out (fun _ hk => ⟨hk.1.1.2, hk.2⟩)⟩, ⟨by (with_reducible repeat (first | apply ab | apply ac | apply af)); exact an HO485.out (fun _ hk => ⟨hk.1.1.2, hk.2⟩)⟩, ⟨by (with_reducible repeat (first | apply ab | apply ac | apply af)); exact an HO488.out (fun _ hk => ⟨hk.1.1.1.1.1.1.1.1.1.2, ⟨hk.1.1.1.1.1.1.1.1.2, ⟨hk.1.1.1.2, hk.1.1.2⟩⟩⟩)⟩, ⟨by (with_reducible repeat (first | apply ab | apply ac | apply af)); exact an HO493.out (fun _ hk => ⟨hk.1.1.1.1.1.1.1.1.1.2, ⟨hk.1.1.1.1.1.1.1.1.2, ⟨hk.1.1.1.2, hk.1.1.2⟩⟩⟩)⟩, ⟨by repeat (first | (with_reducible first | exact HB.out | apply ah | apply ae | apply ag) | exact HB.out)⟩⟩
  case rest => as_aux_lemma =>
   clear HC19
   try clear c1
   try clear p2
   try clear c3
   try clear c4
   try clear c5
   try clear c6
   try clear c14
   try clear c42
   try clear c42b0
   try clear c42b1
   try clear c44
   try clear c45
   try clear c45b0
   try clear c45b1
   try clear c47
   try clear c48
   try clear c48b0
   try clear c48b1
   try clear c49
   try clear c49b0
   try clear c49b1
   try clear c49b2
   try clear c51
   try clear c51b0
   try clear c51b1
   try clear c52
   try clear c52b0
   try clear c52b1
   try clear c52b2
   try clear c60
   obtain ⟨kq, x166_18, rfl, HA, HJ18, HO_3, HO_4, HO_5, HO_15, HO_17, HO_19, HO_21, HO_23, HB⟩ := hcut
   cases kq with
   | zero => exact absurd HA.out (by simp [laws_FnRepairs.j0])
   | succ kj18 =>
    have H := HA.out
    clear HA
    simp only [laws_FnRepairs.j0] at H
    by_cases c104 : x166_18 = true
    ·subst c104
     have H1 : (none) = some r := by rw [if_pos rfl] at H; exact H
     clear H
     have H := H1
     clear H1
     exact absurd H (by simp)
    ·replace c104 := Bool.eq_false_iff.mpr c104
     subst c104
     have H1 := H; rw [if_neg (show ¬ (false = true) by decide)] at H1
     clear H
     have H := H1
     clear H1
     have HC105 := aa H
     clear H
     go_upto_region 20 with (fail)
     repeat (go_quiet (fail); go_upto_region 20 with (fail))
     go_cut [178] (fun v178 wc => ∃ (kq : Nat) (x178_104 : Bool), v178 = .bool x178_104 ∧ Aside0 (laws_FnRepairs.j1 kq t444 t445 t450 t451 t472 t478 t479 t482 x178_104 = some r) ∧ Aside0 (kq ≤ kj18) ∧ Aside0 (Kd.R (Kd.int .i64) 2 wc w.heap.size (fun k_ => some k_ ≠ (v452 : Value).ownBlock ∧ some k_ ≠ ((.slice Ao31 t472.length co31) : Value).ownBlock) (.slice Ao21 t444.length co21) t444) ∧ Aside0 (Kd.R k64 64 wc w.heap.size (fun k_ => some k_ ≠ (v480 : Value).ownBlock ∧ some k_ ≠ (v484 : Value).ownBlock) (.slice Ao22 t445.length co22) t445) ∧ Aside0 (Kd.R (Kd.int .i64) 2 wc w.heap.size (fun k_ => some k_ ≠ ((.slice Ao21 t444.length co21) : Value).ownBlock ∧ some k_ ≠ ((.slice Ao31 t472.length co31) : Value).ownBlock) v452 t450) ∧ Aside0 (Kd.R (Kd.int .i64) 2 wc w.heap.size (fun k_ => some k_ ≠ ((.slice Ao21 t444.length co21) : Value).ownBlock ∧ some k_ ≠ (v452 : Value).ownBlock) (.slice Ao31 t472.length co31) t472) ∧ Aside0 (Kd.R k64 64 wc w.heap.size (fun k_ => some k_ ≠ ((.slice Ao22 t445.length co22) : Value).ownBlock ∧ some k_ ≠ (v484 : Value).ownBlock) v480 t478) ∧ Aside0 (Kd.R k64 64 wc w.heap.size (fun k_ => some k_ ≠ ((.slice Ao22 t445.length co22) : Value).ownBlock ∧ some k_ ≠ (v480 : Value).ownBlock) v484 t482) ∧ Aside0 (Below w.heap.size w wc))
     case first => as_aux_lemma =>
      have H := HC105.out
      clear HC105
      by_cases c106 : t489.toList = ([] : List UInt8)
      ·rw [if_pos c106] at H
       have c106b0 : (t489.toList == ([] : List UInt8)) = true := beq_iff_eq.mpr c106
       have c106b1 : (t489.toList != ([] : List UInt8)) = false := bne_eq_false_iff_eq.mpr c106
       clear c106
       (first | rw [c106b0] | (simp only [i64_w, i32_w]; rw [c106b0]) | skip)
       have H' := aa H
       clear H
       go_wp2
       repeat (go_quiet (fail); try go_wp2)
       go_meet
       case rel => exact ⟨_, (false), (by first | rfl | (simp; done) | (simp [*]; done)), H', ⟨by have := HJ18.out; first | omega | exact Nat.le_refl _⟩, ⟨by (with_reducible repeat (first | apply ab | apply ac | apply af)); exact an HO_3.out (fun _ hk => ⟨hk.1, hk.2.1⟩)⟩, ⟨by (with_reducible repeat (first | apply ab | apply ac | apply af)); exact HO_4.out⟩, ⟨by (with_reducible repeat (first | apply ab | apply ac | apply af)); exact an HO_5.out (fun _ hk => ⟨hk.1, hk.2.1⟩)⟩, ⟨by (with_reducible repeat (first | apply ab | apply ac | apply af)); exact an HO_15.out (fun _ hk => ⟨hk.1, hk.2.1⟩)⟩, ⟨by (with_reducible repeat (first | apply ab | apply ac | apply af)); exact HO_17.out⟩, ⟨by (with_reducible repeat (first | apply ab | apply ac | apply af)); exact HO_19.out⟩, ⟨by repeat (first | (with_reducible first | exact HB.out | apply ah | apply ae | apply ag) | exact HB.out)⟩⟩
      ·rw [if_neg c106] at H
       have c106b0 : (t489.toList == ([] : List UInt8)) = false := beq_eq_false_iff_ne.mpr c106
       have c106b1 : (t489.toList != ([] : List UInt8)) = true := bne_iff_ne.mpr c106
       (first | rw [c106b0] | (simp only [i64_w, i32_w]; rw [c106b0]) | skip)
       by_cases c107 : t491 = true
       ·subst c107
        have H1 := H; rw [if_pos rfl] at H1
        clear H
        have H := H1
        clear H1
        replace H := bm.mp H
        obtain ⟨t509, A1080, H⟩ := H
        replace H : (laws_FnRepairs.j1 kj18 t444 t445 t450 t451 t472 t478 t479 t482 (!t509)) = some r := H
        have A108 := aa A1080
        clear A1080
        have H' := aa H
        clear H
        obtain ⟨Ao109, co109, eo109⟩ := ap HO_23.out
        subst eo109
        go_wp2_with (first | (go_at_call 52; (with_reducible refine (laws_f6ints.calls kj18 _ _ t490 _ _ t486 t509 _ ?side1 ?side2 ?side3 ?side4 A108.out).mono ?_); (case side1 => repeat (first | exact (ai HO_23.out).2.2 | (with_reducible refine ak ?_ _) | (with_reducible refine al ?_ _) | (with_reducible refine am ?_))); (case side2 => exact (ai HO_23.out).2.1); (case side3 => repeat (first | exact (ai HO_21.out).2.2 | (with_reducible refine ak ?_ _) | (with_reducible refine al ?_ _) | (with_reducible refine am ?_))); (case side4 => exact (ai HO_21.out).2.1); rintro e w' ⟨rfl, ⟨nd, rfl⟩⟩; (try first | exact ⟨rfl, _, aj _ _ _⟩ | exact ⟨rfl, _, Eq.trans (aj _ _ _) (congrArg (World.drewN _) (Nat.add_assoc _ _ _))⟩)))
        repeat (go_quiet (first | (go_at_call 52; (with_reducible refine (laws_f6ints.calls kj18 _ _ t490 _ _ t486 t509 _ ?side1 ?side2 ?side3 ?side4 A108.out).mono ?_); (case side1 => repeat (first | exact (ai HO_23.out).2.2 | (with_reducible refine ak ?_ _) | (with_reducible refine al ?_ _) | (with_reducible refine am ?_))); (case side2 => exact (ai HO_23.out).2.1); (case side3 => repeat (first | exact (ai HO_21.out).2.2 | (with_reducible refine ak ?_ _) | (with_reducible refine al ?_ _) | (with_reducible refine am ?_))); (case side4 => exact (ai HO_21.out).2.1); rintro e w' ⟨rfl, ⟨nd, rfl⟩⟩; (try first | exact ⟨rfl, _, aj _ _ _⟩ | exact ⟨rfl, _, Eq.trans (aj _ _ _) (congrArg (World.drewN _) (Nat.add_assoc _ _ _))⟩))); try go_wp2)
        go_meet
        case rel => exact ⟨_, (!t509), (by first | rfl | (simp; done) | (simp [*]; done)), H', ⟨by have := HJ18.out; first | omega | exact Nat.le_refl _⟩, ⟨by (with_reducible repeat (first | apply ab | apply ac | apply af)); exact an HO_3.out (fun _ hk => ⟨hk.1, hk.2.1⟩)⟩, ⟨by (with_reducible repeat (first | apply ab | apply ac | apply af)); exact HO_4.out⟩, ⟨by (with_reducible repeat (first | apply ab | apply ac | apply af)); exact an HO_5.out (fun _ hk => ⟨hk.1, hk.2.1⟩)⟩, ⟨by (with_reducible repeat (first | apply ab | apply ac | apply af)); exact an HO_15.out (fun _ hk => ⟨hk.1, hk.2.1⟩)⟩, ⟨by (with_reducible repeat (first | apply ab | apply ac | apply af)); exact HO_17.out⟩, ⟨by (with_reducible repeat (first | apply ab | apply ac | apply af)); exact HO_19.out⟩, ⟨by repeat (first | (with_reducible first | exact HB.out | apply ah | apply ae | apply ag) | exact HB.out)⟩⟩
       ·replace c107 := Bool.eq_false_iff.mpr c107
        subst c107
        have H1 := H; rw [if_neg (show ¬ (false = true) by decide)] at H1
        clear H
        have H := H1
        clear H1
        have H' := aa H
        clear H
        go_wp2
        repeat (go_quiet (fail); try go_wp2)
        go_meet
        case rel => exact ⟨_, (true), (by first | rfl | (simp; done) | (simp [*]; done)), H', ⟨by have := HJ18.out; first | omega | exact Nat.le_refl _⟩, ⟨by (with_reducible repeat (first | apply ab | apply ac | apply af)); exact an HO_3.out (fun _ hk => ⟨hk.1, hk.2.1⟩)⟩, ⟨by (with_reducible repeat (first | apply ab | apply ac | apply af)); exact HO_4.out⟩, ⟨by (with_reducible repeat (first | apply ab | apply ac | apply af)); exact an HO_5.out (fun _ hk => ⟨hk.1, hk.2.1⟩)⟩, ⟨by (with_reducible repeat (first | apply ab | apply ac | apply af)); exact an HO_15.out (fun _ hk => ⟨hk.1, hk.2.1⟩)⟩, ⟨by (with_reducible repeat (first | apply ab | apply ac | apply af)); exact HO_17.out⟩, ⟨by (with_reducible repeat (first | apply ab | apply ac | apply af)); exact HO_19.out⟩, ⟨by repeat (first | (with_reducible first | exact HB.out | apply ah | apply ae | apply ag) | exact HB.out)⟩⟩
     case rest => as_aux_lemma =>
      clear HC105
      try clear c1
      try clear p2
      try clear c3
      try clear c4
      try clear c5
      try clear c6
      try clear c10
      try clear c14
      try clear c42
      try clear c42b0
      try clear c42b1
      try clear c44
      try clear c45
      try clear c45b0
      try clear c45b1
      try clear c47
      try clear c48
      try clear c48b0
      try clear c48b1
      try clear c49
      try clear c49b0
      try clear c49b1
      try clear c49b2
      try clear c51
      try clear c51b0
      try clear c51b1
      try clear c52
      try clear c52b0
      try clear c52b1
      try clear c52b2
      try clear c60
      try clear c104
      try clear c106
      try clear c106b0
      try clear c106b1
      try clear c107
      try clear p2
      obtain ⟨kq, x178_104, rfl, HA, HJ104, HO_3, HO_4, HO_5, HO_15, HO_17, HO_19, HB⟩ := hcut
      cases kq with
      | zero => exact absurd HA.out (by simp [laws_FnRepairs.j1])
      | succ kj104 =>
       have H := HA.out
       clear HA
       simp only [laws_FnRepairs.j1] at H
       by_cases c110 : x178_104 = true
       ·subst c110
        have H1 : (none) = some r := by rw [if_pos rfl] at H; exact H
        clear H
        have H := H1
        clear H1
        exact absurd H (by simp)
       ·replace c110 := Bool.eq_false_iff.mpr c110
        subst c110
        have H1 := H; rw [if_neg (show ¬ (false = true) by decide)] at H1
        clear H
        have H := H1
        clear H1
        have H' := aa H
        clear H
        go_wp2
        repeat (go_quiet (fail); try go_wp2)
        go_loopg [30] kj104 (fun kq v30 w' => ∃ (x30_3 : Int), v30 = .int .i64 x30_3 ∧ Aside0 (laws_FnRepairs.l0 kq t444 t445 t450 t451 t472 t478 t479 t482 x30_3 = some r) ∧ Aside0 (kq ≤ kj104) ∧ Aside0 (Kd.R (Kd.int .i64) 2 w' w.heap.size (fun k_ => some k_ ≠ (v452 : Value).ownBlock ∧ some k_ ≠ ((.slice Ao31 t472.length co31) : Value).ownBlock) (.slice Ao21 t444.length co21) t444) ∧ Aside0 (Kd.R k64 64 w' w.heap.size (fun k_ => some k_ ≠ (v480 : Value).ownBlock ∧ some k_ ≠ (v484 : Value).ownBlock) (.slice Ao22 t445.length co22) t445) ∧ Aside0 (Kd.R (Kd.int .i64) 2 w' w.heap.size (fun k_ => some k_ ≠ ((.slice Ao21 t444.length co21) : Value).ownBlock ∧ some k_ ≠ ((.slice Ao31 t472.length co31) : Value).ownBlock) v452 t450) ∧ Aside0 (Kd.R (Kd.int .i64) 2 w' w.heap.size (fun k_ => some k_ ≠ ((.slice Ao21 t444.length co21) : Value).ownBlock ∧ some k_ ≠ (v452 : Value).ownBlock) (.slice Ao31 t472.length co31) t472) ∧ Aside0 (Kd.R k64 64 w' w.heap.size (fun k_ => some k_ ≠ ((.slice Ao22 t445.length co22) : Value).ownBlock ∧ some k_ ≠ (v484 : Value).ownBlock) v480 t478) ∧ Aside0 (Kd.R k64 64 w' w.heap.size (fun k_ => some k_ ≠ ((.slice Ao22 t445.length co22) : Value).ownBlock ∧ some k_ ≠ (v480 : Value).ownBlock) v484 t482) ∧ Aside0 (Below w.heap.size w w'))
        case atStart => exact ⟨(0), (by first | rfl | (simp; done) | (simp [*]; done)), H', ⟨Nat.le_refl _⟩, ⟨by (with_reducible repeat (first | apply ab | apply ac | apply af)); exact HO_3.out⟩, ⟨by (with_reducible repeat (first | apply ab | apply ac | apply af)); exact HO_4.out⟩, ⟨by (with_reducible repeat (first | apply ab | apply ac | apply af)); exact HO_5.out⟩, ⟨by (with_reducible repeat (first | apply ab | apply ac | apply af)); exact HO_15.out⟩, ⟨by (with_reducible repeat (first | apply ab | apply ac | apply af)); exact HO_17.out⟩, ⟨by (with_reducible repeat (first | apply ab | apply ac | apply af)); exact HO_19.out⟩, ⟨by repeat (first | (with_reducible first | exact HB.out | apply ah | apply ae | apply ag) | exact HB.out)⟩⟩
        case round => as_aux_lemma =>
         clear H'
         try clear c1
         try clear p2
         try clear c3
         try clear c4
         try clear c5
         try clear c6
         try clear c10
         try clear c11
         try clear c14
         try clear c42
         try clear c42b0
         try clear c42b1
         try clear c44
         try clear c45
         try clear c45b0
         try clear c45b1
         try clear c47
         try clear c48
         try clear c48b0
         try clear c48b1
         try clear c49
         try clear c49b0
         try clear c49b1
         try clear c49b2
         try clear c51
         try clear c51b0
         try clear c51b1
         try clear c52
         try clear c52b0
         try clear c52b1
         try clear c52b2
         try clear c60
         try clear c104
         try clear c106
         try clear c106b0
         try clear c106b1
         try clear c107
         try clear c110
         try clear p2
         obtain ⟨x30_3, rfl, HA, HK3, HO_3, HO_4, HO_5, HO_15, HO_17, HO_19, HB⟩ := hrel
         cases gk with
         | zero => exact absurd HA.out (by simp [laws_FnRepairs.l0])
         | succ k3 =>
          have H := HA.out
          clear HA
          simp only [laws_FnRepairs.l0] at H
          by_cases c111 : x30_3 < (t482.length : Int)
          ·rw [if_pos c111] at H
           have c111b0 : decide (x30_3 < (t482.length : Int)) = true := decide_eq_true c111
           clear c111
           by_cases c112 : 0 ≤ x30_3
           ·rw [if_pos c112] at H
            have c112b0 : decide (0 ≤ x30_3) = true := decide_eq_true c112
            clear c112
            by_cases c113 : x30_3 < (t478.length : Int)
            ·rw [if_pos c113] at H
             have c113b0 : decide (x30_3 < (t478.length : Int)) = true := decide_eq_true c113
             clear c113
             by_cases c114 : (!(((rd_T64 t478 x30_3).f0) == ((rd_T64 t482 x30_3).f0)) || (!(((rd_T64 t478 x30_3).f1) == ((rd_T64 t482 x30_3).f1)) || (!(((rd_T64 t478 x30_3).f2) == ((rd_T64 t482 x30_3).f2))))) = true
             ·rw [if_pos c114] at H
              exact absurd H (by simp)
             ·rw [if_neg c114] at H
              have c114b0 : (!(((rd_T64 t478 x30_3).f0) == ((rd_T64 t482 x30_3).f0)) || (!(((rd_T64 t478 x30_3).f1) == ((rd_T64 t482 x30_3).f1)) || (!(((rd_T64 t478 x30_3).f2) == ((rd_T64 t482 x30_3).f2))))) = false := by simpa using c114
              clear c114
              have H' := aa H
              clear H
              obtain ⟨Ao115, co115, eo115⟩ := ap HO_19.out
              subst eo115
              obtain ⟨Ao116, co116, eo116⟩ := ap HO_17.out
              subst eo116
              have p510 : 0 ≤ (x30_3 : Int) := of_decide_eq_true (by first | (with_reducible assumption) | assumption)
              have q510 : x30_3 < (t478.length : Int) := of_decide_eq_true (by first | (with_reducible assumption) | assumption)
              obtain ⟨ad510, e510, hx510_0, hx510_1, hx510_2⟩ := at_T64 (ai HO_17.out).2.2 x30_3 p510 q510
              cases e510
              replace p510 := eq_true p510
              replace q510 := eq_true q510
              have p511 : 0 ≤ (x30_3 : Int) := of_decide_eq_true (by first | (with_reducible assumption) | assumption)
              have q511 : x30_3 < (t482.length : Int) := of_decide_eq_true (by first | (with_reducible assumption) | assumption)
              obtain ⟨ad511, e511, hx511_0, hx511_1, hx511_2⟩ := at_T64 (ai HO_19.out).2.2 x30_3 p511 q511
              cases e511
              replace p511 := eq_true p511
              replace q511 := eq_true q511
              go_wp2
              repeat (go_quiet (fail); try go_wp2)
              go_roundg k3
              case measure => have := HJ18.out; have := HJ104.out; have := HK3.out; omega
              case rel => exact ⟨(wrap64 (x30_3 + 1)), (by first | rfl | (simp; done) | (simp [*]; done)), H', ⟨by have := HJ18.out; have := HJ104.out; have := HK3.out; omega⟩, ⟨by (with_reducible repeat (first | apply ab | apply ac | apply af)); exact HO_3.out⟩, ⟨by (with_reducible repeat (first | apply ab | apply ac | apply af)); exact HO_4.out⟩, ⟨by (with_reducible repeat (first | apply ab | apply ac | apply af)); exact HO_5.out⟩, ⟨by (with_reducible repeat (first | apply ab | apply ac | apply af)); exact HO_15.out⟩, ⟨by (with_reducible repeat (first | apply ab | apply ac | apply af)); exact HO_17.out⟩, ⟨by (with_reducible repeat (first | apply ab | apply ac | apply af)); exact HO_19.out⟩, ⟨by repeat (first | (with_reducible first | exact HB.out | apply ah | apply ae | apply ag) | exact HB.out)⟩⟩
            ·rw [if_neg c113] at H
             exact absurd H (by simp)
           ·rw [if_neg c112] at H
            exact absurd H (by simp)
          ·rw [if_neg c111] at H
           have c111b0 : decide (x30_3 < (t482.length : Int)) = false := decide_eq_false c111
           clear c111
           have HC117 := aa H
           clear H
           obtain ⟨Ao118, co118, eo118⟩ := ap HO_19.out
           subst eo118
           go_upto_if 195 with (fail)
           repeat (go_quiet (fail); go_upto_if 195 with (fail))
           go_cut [] (fun wc => ∃ (kq : Nat), Aside0 (laws_FnRepairs.j3 kq t444 t445 t450 t451 = some r) ∧ Aside0 (kq ≤ k3) ∧ Aside0 (Kd.R (Kd.int .i64) 2 wc w.heap.size (fun k_ => some k_ ≠ (v452 : Value).ownBlock) (.slice Ao21 t444.length co21) t444) ∧ Aside0 (Kd.R k64 64 wc w.heap.size (fun _ => True) (.slice Ao22 t445.length co22) t445) ∧ Aside0 (Kd.R (Kd.int .i64) 2 wc w.heap.size (fun k_ => some k_ ≠ ((.slice Ao21 t444.length co21) : Value).ownBlock) v452 t450) ∧ Aside0 (Below w.heap.size w wc))
           case first => as_aux_lemma =>
            have H := HC117.out
            clear HC117
            by_cases c119 : t479 = 0
            ·rw [if_pos c119] at H
             have c119b0 : (t479 == 0) = true := beq_iff_eq.mpr c119
             have c119b1 : (t479 != 0) = false := bne_eq_false_iff_eq.mpr c119
             clear c119
             (first | rw [c119b0] | (simp only [i64_w, i32_w]; rw [c119b0]) | skip)
             replace H := bm.mp H
             obtain ⟨⟨t512, t513⟩, A1200, H⟩ := H
             (try dsimp only at H)
             have A120 := aa A1200
             clear A1200
             replace H := bm.mp H
             obtain ⟨⟨t516, t517⟩, A1210, H⟩ := H
             (try dsimp only at H)
             have A121 := aa A1210
             clear A1210
             by_cases c122 : t513 = 0
             ·rw [if_pos c122] at H
              have c122b0 : (t513 == 0) = true := beq_iff_eq.mpr c122
              have c122b1 : (t513 != 0) = false := bne_eq_false_iff_eq.mpr c122
              clear c122
              by_cases c123 : t517 = 0
              ·rw [if_pos c123] at H
               have c123b0 : (t517 == 0) = true := beq_iff_eq.mpr c123
               have c123b1 : (t517 != 0) = false := bne_eq_false_iff_eq.mpr c123
               clear c123
               by_cases c124 : (t516.length : Int) = 4
               ·rw [if_pos c124] at H
                have c124b0 : ((t516.length : Int) == 4) = true := beq_iff_eq.mpr c124
                have c124b1 : ((t516.length : Int) != 4) = false := bne_eq_false_iff_eq.mpr c124
                clear c124
                by_cases c125 : 1 < (t516.length : Int)
                ·rw [if_pos c125] at H
                 have c125b0 : decide (1 < (t516.length : Int)) = true := decide_eq_true c125
                 have c125b1 : decide (1 < t516.length) = true := decide_eq_true (by omega)
                 clear c125
                 by_cases c126 : (rd t516 1) = 0
                 ·rw [if_pos c126] at H
                  have c126b0 : ((rd t516 1) == 0) = true := beq_iff_eq.mpr c126
                  have c126b1 : ((rd t516 1) != 0) = false := bne_eq_false_iff_eq.mpr c126
                  clear c126
                  have H' := aa H
                  clear H
                  obtain ⟨Ao127, co127, eo127⟩ := ap HO_17.out
                  subst eo127
                  go_wp2_with (first | (go_at_call 35; (with_reducible refine (impl_ApplyRepairs.calls k3 _ _ t472 _ _ t478 t512 t513 _ ?side1 ?side2 ?side3 ?side4 A120.out).mono ?_); (case side1 => repeat (first | exact (ai HO_15.out).2.2 | (with_reducible refine ak ?_ _) | (with_reducible refine al ?_ _) | (with_reducible refine am ?_))); (case side2 => exact (ai HO_15.out).2.1); (case side3 => repeat (first | exact (ai HO_17.out).2.2 | (with_reducible refine ak ?_ _) | (with_reducible refine al ?_ _) | (with_reducible refine am ?_))); (case side4 => exact (ai HO_17.out).2.1); rintro e w128 ⟨v514, rfl, ho0, hb⟩; have n0_ := aa (aw (by (with_reducible repeat (first | apply ab | apply ac | apply af)); exact HO_3.out) (az ho0) hb); have n1_ := aa (aq (by (with_reducible repeat (first | apply ab | apply ac | apply af)); exact HO_4.out) hb); have n2_ := aa (aw (by (with_reducible repeat (first | apply ab | apply ac | apply af)); exact HO_5.out) (az ho0) hb); have n3_ := aa (aw (by (with_reducible repeat (first | apply ab | apply ac | apply af)); exact HO_15.out) (az ho0) hb); have n4_ := aa (aq (by (with_reducible repeat (first | apply ab | apply ac | apply af)); exact HO_17.out) hb); have n5_ := aa (aq (by (with_reducible repeat (first | apply ab | apply ac | apply af)); exact HO_19.out) hb); have n6_ := aa (bd (ba (ba (ba ho0 (bc (by (with_reducible repeat (first | apply ab | apply ac | apply af)); exact HO_3.out))) (bc (by (with_reducible repeat (first | apply ab | apply ac | apply af)); exact HO_5.out))) (bc (by (with_reducible repeat (first | apply ab | apply ac | apply af)); exact HO_15.out))) (ar (by repeat (first | (with_reducible first | exact HB.out | apply ah | apply ae | apply ag) | exact HB.out)))); have n7_ := aa (ay (by repeat (first | (with_reducible first | exact HB.out | apply ah | apply ae | apply ag) | exact HB.out)) hb); clear HO_3; clear HO_4; clear HO_5; clear HO_15; clear HO_17; clear HO_19; clear HB; have HO_3 := n0_; have HO_4 := n1_; have HO_5 := n2_; have HO_15 := n3_; have HO_17 := n4_; have HO_19 := n5_; have HO515 := n6_; have HB := n7_; clear n0_ n1_ n2_ n3_ n4_ n5_ n6_ n7_; (try clear hb); (try clear hb2); (try clear hk); (try clear hi); (try clear ho0); obtain ⟨Ao129, co129, eo129⟩ := ap HO515.out; subst eo129) | (go_at_call 22; (with_reducible refine (impl_CountStates.calls k3 _ _ t512 t516 t517 _ ?side1 ?side2 A121.out).mono ?_); (case side1 => repeat (first | exact (ai HO515.out).2.2 | (with_reducible refine ak ?_ _) | (with_reducible refine al ?_ _) | (with_reducible refine am ?_))); (case side2 => exact (ai HO515.out).2.1); rintro e w130 ⟨v518, rfl, ho0, hb⟩; have n0_ := aa (aw (by (with_reducible repeat (first | apply ab | apply ac | apply af)); exact HO_3.out) (az ho0) hb); have n1_ := aa (aq (by (with_reducible repeat (first | apply ab | apply ac | apply af)); exact HO_4.out) hb); have n2_ := aa (aw (by (with_reducible repeat (first | apply ab | apply ac | apply af)); exact HO_5.out) (az ho0) hb); have n3_ := aa (aw (by (with_reducible repeat (first | apply ab | apply ac | apply af)); exact HO_15.out) (az ho0) hb); have n4_ := aa (aq (by (with_reducible repeat (first | apply ab | apply ac | apply af)); exact HO_17.out) hb); have n5_ := aa (aq (by (with_reducible repeat (first | apply ab | apply ac | apply af)); exact HO_19.out) hb); have n6_ := aa (aw (by (with_reducible repeat (first | apply ab | apply ac | apply af)); exact HO515.out) (az ho0) hb); have n7_ := aa (bd (ba (ba (ba (ba ho0 (bc (by (with_reducible repeat (first | apply ab | apply ac | apply af)); exact HO_3.out))) (bc (by (with_reducible repeat (first | apply ab | apply ac | apply af)); exact HO_5.out))) (bc (by (with_reducible repeat (first | apply ab | apply ac | apply af)); exact HO_15.out))) (bc (by (with_reducible repeat (first | apply ab | apply ac | apply af)); exact HO515.out))) (ar (by repeat (first | (with_reducible first | exact HB.out | apply ah | apply ae | apply ag) | exact HB.out)))); have n8_ := aa (ay (by repeat (first | (with_reducible first | exact HB.out | apply ah | apply ae | apply ag) | exact HB.out)) hb); clear HO_3; clear HO_4; clear HO_5; clear HO_15; clear HO_17; clear HO_19; clear HO515; clear HB; have HO_3 := n0_; have HO_4 := n1_; have HO_5 := n2_; have HO_15 := n3_; have HO_17 := n4_; have HO_19 := n5_; have HO515 := n6_; have HO519 := n7_; have HB := n8_; clear n0_ n1_ n2_ n3_ n4_ n5_ n6_ n7_ n8_; (try clear hb); (try clear hb2); (try clear hk); (try clear hi); (try clear ho0); obtain ⟨Ao131, co131, eo131⟩ := ap HO519.out; subst eo131; have p520 : 0 ≤ (1 : Int) := (by omega); have q520 : 1 < (t516.length : Int) := of_decide_eq_true (by first | (with_reducible assumption) | assumption); obtain ⟨ad520, e520, hx520_0⟩ := bj (ai HO519.out).2.2 1 p520 q520; cases e520; (try simp only [show (1 : Int).toNat = 1 from rfl, Nat.reduceMul, Nat.reduceEqDiff, Go.Addr.add, ↓reduceIte] at hx520_0); have qi520 : (1 < t516.length) = True := eq_true (by omega); (try rw [show ((1 : Int)).toNat = 1 from rfl] at hx520_0); replace p520 := eq_true p520; replace q520 := eq_true q520))
                  repeat (go_quiet (first | (go_at_call 35; (with_reducible refine (impl_ApplyRepairs.calls k3 _ _ t472 _ _ t478 t512 t513 _ ?side1 ?side2 ?side3 ?side4 A120.out).mono ?_); (case side1 => repeat (first | exact (ai HO_15.out).2.2 | (with_reducible refine ak ?_ _) | (with_reducible refine al ?_ _) | (with_reducible refine am ?_))); (case side2 => exact (ai HO_15.out).2.1); (case side3 => repeat (first | exact (ai HO_17.out).2.2 | (with_reducible refine ak ?_ _) | (with_reducible refine al ?_ _) | (with_reducible refine am ?_))); (case side4 => exact (ai HO_17.out).2.1); rintro e w128 ⟨v514, rfl, ho0, hb⟩; have n0_ := aa (aw (by (with_reducible repeat (first | apply ab | apply ac | apply af)); exact HO_3.out) (az ho0) hb); have n1_ := aa (aq (by (with_reducible repeat (first | apply ab | apply ac | apply af)); exact HO_4.out) hb); have n2_ := aa (aw (by (with_reducible repeat (first | apply ab | apply ac | apply af)); exact HO_5.out) (az ho0) hb); have n3_ := aa (aw (by (with_reducible repeat (first | apply ab | apply ac | apply af)); exact HO_15.out) (az ho0) hb); have n4_ := aa (aq (by (with_reducible repeat (first | apply ab | apply ac | apply af)); exact HO_17.out) hb); have n5_ := aa (aq (by (with_reducible repeat (first | apply ab | apply ac | apply af)); exact HO_19.out) hb); have n6_ := aa (bd (ba (ba (ba ho0 (bc (by (with_reducible repeat (first | apply ab | apply ac | apply af)); exact HO_3.out))) (bc (by (with_reducible repeat (first | apply ab | apply ac | apply af)); exact HO_5.out))) (bc (by (with_reducible repeat (first | apply ab | apply ac | apply af)); exact HO_15.out))) (ar (by repeat (first | (with_reducible first | exact HB.out | apply ah | apply ae | apply ag) | exact HB.out)))); have n7_ := aa (ay (by repeat (first | (with_reducible first | exact HB.out | apply ah | apply ae | apply ag) | exact HB.out)) hb); clear HO_3; clear HO_4; clear HO_5; clear HO_15; clear HO_17; clear HO_19; clear HB; have HO_3 := n0_; have HO_4 := n1_; have HO_5 := n2_; have HO_15 := n3_; have HO_17 := n4_; have HO_19 := n5_; have HO515 := n6_; have HB := n7_; clear n0_ n1_ n2_ n3_ n4_ n5_ n6_ n7_; (try clear hb); (try clear hb2); (try clear hk); (try clear hi); (try clear ho0); obtain ⟨Ao129, co129, eo129⟩ := ap HO515.out; subst eo129) | (go_at_call 22; (with_reducible refine (impl_CountStates.calls k3 _ _ t512 t516 t517 _ ?side1 ?side2 A121.out).mono ?_); (case side1 => repeat (first | exact (ai HO515.out).2.2 | (with_reducible refine ak ?_ _) | (with_reducible refine al ?_ _) | (with_reducible refine am ?_))); (case side2 => exact (ai HO515.out).2.1); rintro e w130 ⟨v518, rfl, ho0, hb⟩; have n0_ := aa (aw (by (with_reducible repeat (first | apply ab | apply ac | apply af)); exact HO_3.out) (az ho0) hb); have n1_ := aa (aq (by (with_reducible repeat (first | apply ab | apply ac | apply af)); exact HO_4.out) hb); have n2_ := aa (aw (by (with_reducible repeat (first | apply ab | apply ac | apply af)); exact HO_5.out) (az ho0) hb); have n3_ := aa (aw (by (with_reducible repeat (first | apply ab | apply ac | apply af)); exact HO_15.out) (az ho0) hb); have n4_ := aa (aq (by (with_reducible repeat (first | apply ab | apply ac | apply af)); exact HO_17.out) hb); have n5_ := aa (aq (by (with_reducible repeat (first | apply ab | apply ac | apply af)); exact HO_19.out) hb); have n6_ := aa (aw (by (with_reducible repeat (first | apply ab | apply ac | apply af)); exact HO515.out) (az ho0) hb); have n7_ := aa (bd (ba (ba (ba (ba ho0 (bc (by (with_reducible repeat (first | apply ab | apply ac | apply af)); exact HO_3.out))) (bc (by (with_reducible repeat (first | apply ab | apply ac | apply af)); exact HO_5.out))) (bc (by (with_reducible repeat (first | apply ab | apply ac | apply af)); exact HO_15.out))) (bc (by (with_reducible repeat (first | apply ab | apply ac | apply af)); exact HO515.out))) (ar (by repeat (first | (with_reducible first | exact HB.out | apply ah | apply ae | apply ag) | exact HB.out)))); have n8_ := aa (ay (by repeat (first | (with_reducible first | exact HB.out | apply ah | apply ae | apply ag) | exact HB.out)) hb); clear HO_3; clear HO_4; clear HO_5; clear HO_15; clear HO_17; clear HO_19; clear HO515; clear HB; have HO_3 := n0_; have HO_4 := n1_; have HO_5 := n2_; have HO_15 := n3_; have HO_17 := n4_; have HO_19 := n5_; have HO515 := n6_; have HO519 := n7_; have HB := n8_; clear n0_ n1_ n2_ n3_ n4_ n5_ n6_ n7_ n8_; (try clear hb); (try clear hb2); (try clear hk); (try clear hi); (try clear ho0); obtain ⟨Ao131, co131, eo131⟩ := ap HO519.out; subst eo131; have p520 : 0 ≤ (1 : Int) := (by omega); have q520 : 1 < (t516.length : Int) := of_decide_eq_true (by first | (with_reducible assumption) | assumption); obtain ⟨ad520, e520, hx520_0⟩ := bj (ai HO519.out).2.2 1 p520 q520; cases e520; (try simp only [show (1 : Int).toNat = 1 from rfl, Nat.reduceMul, Nat.reduceEqDiff, Go.Addr.add, ↓reduceIte] at hx520_0); have qi520 : (1 < t516.length) = True := eq_true (by omega); (try rw [show ((1 : Int)).toNat = 1 from rfl] at hx520_0); replace p520 := eq_true p520; replace q520 := eq_true q520)); try go_wp2)
                  go_meet
                  case rel => exact ⟨_, H', ⟨by have := HJ18.out; have := HJ104.out; have := HK3.out; first | omega | exact Nat.le_refl _⟩, ⟨by (with_reducible repeat (first | apply ab | apply ac | apply af)); exact an HO_3.out (fun _ hk => hk.1.1.1)⟩, ⟨by (with_reducible repeat (first | apply ab | apply ac | apply af)); exact an HO_4.out (fun _ hk => trivial)⟩, ⟨by (with_reducible repeat (first | apply ab | apply ac | apply af)); exact an HO_5.out (fun _ hk => hk.1.1.1)⟩, ⟨by repeat (first | (with_reducible first | exact HB.out | apply ah | apply ae | apply ag) | exact HB.out)⟩⟩
                 ·rw [if_neg c126] at H
                  exact absurd H (by simp)
                ·rw [if_neg c125] at H
                 exact absurd H (by simp)
               ·rw [if_neg c124] at H
                exact absurd H (by simp)
              ·rw [if_neg c123] at H
               exact absurd H (by simp)
             ·rw [if_neg c122] at H
              exact absurd H (by simp)
            ·rw [if_neg c119] at H
             have c119b0 : (t479 == 0) = false := beq_eq_false_iff_ne.mpr c119
             have c119b1 : (t479 != 0) = true := bne_iff_ne.mpr c119
             (first | rw [c119b0] | (simp only [i64_w, i32_w]; rw [c119b0]) | skip)
             have H' := aa H
             clear H
             go_wp2
             repeat (go_quiet (fail); try go_wp2)
             go_meet
             case rel => exact ⟨_, H', ⟨by have := HJ18.out; have := HJ104.out; have := HK3.out; first | omega | exact Nat.le_refl _⟩, ⟨by (with_reducible repeat (first | apply ab | apply ac | apply af)); exact an HO_3.out (fun _ hk => hk.1)⟩, ⟨by (with_reducible repeat (first | apply ab | apply ac | apply af)); exact an HO_4.out (fun _ hk => trivial)⟩, ⟨by (with_reducible repeat (first | apply ab | apply ac | apply af)); exact an HO_5.out (fun _ hk => hk.1)⟩, ⟨by repeat (first | (with_reducible first | exact HB.out | apply ah | apply ae | apply ag) | exact HB.out)⟩⟩
           case rest => as_aux_lemma =>
            clear HC117
            try clear c1
            try clear p2
            try clear c3
            try clear c4
            try clear c5
            try clear p5
            try clear q5
            try clear hx5
            try clear qi5
            try clear c6
            try clear p6
            try clear c10
            try clear c11
            try clear c12
            try clear c14
            try clear c42
            try clear c42b0
            try clear c42b1
            try clear c44
            try clear c45
            try clear c45b0
            try clear c45b1
            try clear c47
            try clear c48
            try clear c48b0
            try clear c48b1
            try clear c49
            try clear c49b0
            try clear c49b1
            try clear c49b2
            try clear c51
            try clear c51b0
            try clear c51b1
            try clear p51
            try clear q51
            try clear hx51
            try clear c52
            try clear c52b0
            try clear c52b1
            try clear c52b2
            try clear p52
            try clear q52
            try clear hx52
            try clear qi52
            try clear c60
            try clear p64
            try clear c104
            try clear c106
            try clear c106b0
            try clear c106b1
            try clear c107
            try clear c110
            try clear c111
            try clear c111b0
            try clear c112
            try clear c112b0
            try clear c113
            try clear c113b0
            try clear c114
            try clear c114b0
            try clear c119
            try clear c119b0
            try clear c119b1
            try clear c122
            try clear c122b0
            try clear c122b1
            try clear c123
            try clear c123b0
            try clear c123b1
            try clear c124
            try clear c124b0
            try clear c124b1
            try clear c125
            try clear c125b0
            try clear c125b1
            try clear c126
            try clear c126b0
            try clear c126b1
            try clear hx510_0
            try clear hx510_1
            try clear hx510_2
            try clear hx511_0
            try clear hx511_1
            try clear hx511_2
            try clear hx520_0
            try clear p2
            try clear p510
            try clear p511
            try clear p520
            try clear q510
            try clear q511
            try clear q520
            obtain ⟨kq, HA, HJ116, HO_3, HO_4, HO_5, HB⟩ := hcut
            cases kq with
            | zero => exact absurd HA.out (by simp [laws_FnRepairs.j3])
            | succ kj116 =>
             have H := HA.out
             clear HA
             simp only [laws_FnRepairs.j3] at H
             by_cases c132 : t451 = 0
             ·rw [if_pos c132] at H
              have c132b0 : (t451 == 0) = true := beq_iff_eq.mpr c132
              have c132b1 : (t451 != 0) = false := bne_eq_false_iff_eq.mpr c132
              clear c132
              replace H := bm.mp H
              obtain ⟨⟨t521, t522⟩, A1330, H⟩ := H
              (try dsimp only at H)
              have A133 := aa A1330
              clear A1330
              by_cases c134 : t522 = 0
              ·rw [if_pos c134] at H
               have c134b0 : (t522 == 0) = true := beq_iff_eq.mpr c134
               have c134b1 : (t522 != 0) = false := bne_eq_false_iff_eq.mpr c134
               clear c134
               replace H := bm.mp H
               obtain ⟨t525, A1350, H⟩ := H
               replace H : (some t525) = some r := H
               have A135 := aa A1350
               clear A1350
               obtain rfl := Option.some.inj H
               obtain ⟨Ao136, co136, eo136⟩ := ap HO_5.out
               subst eo136
               go_wp2_with (first | (go_at_call 39; (with_reducible refine (impl_UndoRepairs.calls kj116 _ _ t450 _ _ t445 t521 t522 _ ?side1 ?side2 ?side3 ?side4 A133.out).mono ?_); (case side1 => repeat (first | exact (ai HO_5.out).2.2 | (with_reducible refine ak ?_ _) | (with_reducible refine al ?_ _) | (with_reducible refine am ?_))); (case side2 => exact (ai HO_5.out).2.1); (case side3 => repeat (first | exact (ai HO_4.out).2.2 | (with_reducible refine ak ?_ _) | (with_reducible refine al ?_ _) | (with_reducible refine am ?_))); (case side4 => exact (ai HO_4.out).2.1); rintro e w137 ⟨v523, rfl, ho0, hb⟩; have n0_ := aa (aw (by (with_reducible repeat (first | apply ab | apply ac | apply af)); exact HO_3.out) (az ho0) hb); have n1_ := aa (aq (by (with_reducible repeat (first | apply ab | apply ac | apply af)); exact HO_4.out) hb); have n2_ := aa (aw (by (with_reducible repeat (first | apply ab | apply ac | apply af)); exact HO_5.out) (az ho0) hb); have n3_ := aa (bd (ba (ba ho0 (bc (by (with_reducible repeat (first | apply ab | apply ac | apply af)); exact HO_3.out))) (bc (by (with_reducible repeat (first | apply ab | apply ac | apply af)); exact HO_5.out))) (ar (by repeat (first | (with_reducible first | exact HB.out | apply ah | apply ae | apply ag) | exact HB.out)))); have n4_ := aa (ay (by repeat (first | (with_reducible first | exact HB.out | apply ah | apply ae | apply ag) | exact HB.out)) hb); clear HO_3; clear HO_4; clear HO_5; clear HB; have HO_3 := n0_; have HO_4 := n1_; have HO_5 := n2_; have HO524 := n3_; have HB := n4_; clear n0_ n1_ n2_ n3_ n4_; (try clear hb); (try clear hb2); (try clear hk); (try clear hi); (try clear ho0); obtain ⟨Ao138, co138, eo138⟩ := ap HO524.out; subst eo138) | (go_at_call 52; (with_reducible refine (laws_f6ints.calls kj116 _ _ t521 _ _ t444 t525 _ ?side1 ?side2 ?side3 ?side4 A135.out).mono ?_); (case side1 => repeat (first | exact (ai HO524.out).2.2 | (with_reducible refine ak ?_ _) | (with_reducible refine al ?_ _) | (with_reducible refine am ?_))); (case side2 => exact (ai HO524.out).2.1); (case side3 => repeat (first | exact (ai HO_3.out).2.2 | (with_reducible refine ak ?_ _) | (with_reducible refine al ?_ _) | (with_reducible refine am ?_))); (case side4 => exact (ai HO_3.out).2.1); rintro e w' ⟨rfl, ⟨nd, rfl⟩⟩; (try first | exact ⟨rfl, _, aj _ _ _⟩ | exact ⟨rfl, _, Eq.trans (aj _ _ _) (congrArg (World.drewN _) (Nat.add_assoc _ _ _))⟩)))
               repeat (go_quiet (first | (go_at_call 39; (with_reducible refine (impl_UndoRepairs.calls kj116 _ _ t450 _ _ t445 t521 t522 _ ?side1 ?side2 ?side3 ?side4 A133.out).mono ?_); (case side1 => repeat (first | exact (ai HO_5.out).2.2 | (with_reducible refine ak ?_ _) | (with_reducible refine al ?_ _) | (with_reducible refine am ?_))); (case side2 => exact (ai HO_5.out).2.1); (case side3 => repeat (first | exact (ai HO_4.out).2.2 | (with_reducible refine ak ?_ _) | (with_reducible refine al ?_ _) | (with_reducible refine am ?_))); (case side4 => exact (ai HO_4.out).2.1); rintro e w137 ⟨v523, rfl, ho0, hb⟩; have n0_ := aa (aw (by (with_reducible repeat (first | apply ab | apply ac | apply af)); exact HO_3.out) (az ho0) hb); have n1_ := aa (aq (by (with_reducible repeat (first | apply ab | apply ac | apply af)); exact HO_4.out) hb); have n2_ := aa (aw (by (with_reducible repeat (first | apply ab | apply ac | apply af)); exact HO_5.out) (az ho0) hb); have n3_ := aa (bd (ba (ba ho0 (bc (by (with_reducible repeat (first | apply ab | apply ac | apply af)); exact HO_3.out))) (bc (by (with_reducible repeat (first | apply ab | apply ac | apply af)); exact HO_5.out))) (ar (by repeat (first | (with_reducible first | exact HB.out | apply ah | apply ae | apply ag) | exact HB.out)))); have n4_ := aa (ay (by repeat (first | (with_reducible first | exact HB.out | apply ah | apply ae | apply ag) | exact HB.out)) hb); clear HO_3; clear HO_4; clear HO_5; clear HB; have HO_3 := n0_; have HO_4 := n1_; have HO_5 := n2_; have HO524 := n3_; have HB := n4_; clear n0_ n1_ n2_ n3_ n4_; (try clear hb); (try clear hb2); (try clear hk); (try clear hi); (try clear ho0); obtain ⟨Ao138, co138, eo138⟩ := ap HO524.out; subst eo138) | (go_at_call 52; (with_reducible refine (laws_f6ints.calls kj116 _ _ t521 _ _ t444 t525 _ ?side1 ?side2 ?side3 ?side4 A135.out).mono ?_); (case side1 => repeat (first | exact (ai HO524.out).2.2 | (with_reducible refine ak ?_ _) | (with_reducible refine al ?_ _) | (with_reducible refine am ?_))); (case side2 => exact (ai HO524.out).2.1); (case side3 => repeat (first | exact (ai HO_3.out).2.2 | (with_reducible refine ak ?_ _) | (with_reducible refine al ?_ _) | (with_reducible refine am ?_))); (case side4 => exact (ai HO_3.out).2.1); rintro e w' ⟨rfl, ⟨nd, rfl⟩⟩; (try first | exact ⟨rfl, _, aj _ _ _⟩ | exact ⟨rfl, _, Eq.trans (aj _ _ _) (congrArg (World.drewN _) (Nat.add_assoc _ _ _))⟩))); try go_wp2)
               go_ret
               exact ⟨by first | rfl | (simp [errW_none, errW_some] <;> rfl) | (simp [*, errW_none, errW_some] <;> rfl), by repeat (first | (with_reducible first | exact HB.out | apply ah | apply ae | apply ag) | exact HB.out)⟩
              ·rw [if_neg c134] at H
               exact absurd H (by simp)
             ·rw [if_neg c132] at H
              have c132b0 : (t451 == 0) = false := beq_eq_false_iff_ne.mpr c132
              have c132b1 : (t451 != 0) = true := bne_iff_ne.mpr c132
              obtain rfl := Option.some.inj H
              go_wp2
              repeat (go_quiet (fail); try go_wp2)
              go_ret
              exact ⟨by first | rfl | (simp [errW_none, errW_some] <;> rfl) | (simp [*, errW_none, errW_some] <;> rfl), by repeat (first | (with_reducible first | exact HB.out | apply ah | apply ae | apply ag) | exact HB.out)⟩

/-- THE ONE PURE STATEMENT of laws_FnRepairs: yours. -/
def laws_FnRepairs.Pure : Prop := ∀ (l0 : List Int), l0.length ≤ maxLen → l0.length * 1 ≤ 140737488351232 → (∀ x ∈ l0, (Lit.int .u8 x).wf = true) → ∃ k, laws_FnRepairs.f k l0 = some true
theorem laws_FnRepairs.walk (P : laws_FnRepairs.Pure) (a0 : Option Addr) (len0 cap0 : Nat) (z0 : List Int) (w : World) (w0 : (a0 = none ∧ len0 = 0 ∧ cap0 = 0 ∧ z0 = []) ∨ ∃ x, a0 = some x ∧ len0 ≤ cap0 ∧ cap0 ≤ maxLen ∧ z0.length = cap0 ∧ (∀ i, i < z0.length → w.cell? (x.add i) = some (.int .u8 (z0.getD i 0))) ∧ ∀ n ∈ z0, (Lit.int .u8 n).wf = true) (y0 : len0 * 1 ≤ 140737488351232) :
  Calls Try.prog 14 #[.slice a0 len0 cap0] w fun e w' => e = .returned (.bool true) ∧ Below w.heap.size w w' := by
 obtain ⟨l0, rfl, hr0, hm0, hw0, hc0⟩ := ReadsInt.ofRowC w0
 obtain ⟨k, h⟩ := P l0 hm0 y0 hw0
 refine (laws_FnRepairs.calls k _ _ l0 true w (Kd.C_of_reads (d := (0 : Int)) (h1 := fun _ => rfl) hr0) hc0 h).mono ?_
 rintro e w' ⟨rfl, hd⟩
 exact ⟨rfl, hd⟩

end Go.Proofs.Ytfajacoagaamlaa.QFnRepairs
