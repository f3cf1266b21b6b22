/- Walks of the Go functions that the law FnCopiesUsed reaches: written by a program of this session. -/
import Derived.Test.YtfajacoagaamlaaQFnCopiesUsedx0
import Derived.Test.YtfajacoagaamlaaQFnCopiesUsedx1
import Derived.Test.YtfajacoagaamlaaQFnCopiesUsedx2
import Derived.Test.YtfajacoagaamlaaQFnCopiesUsedx3
import Derived.Test.YtfajacoagaamlaaQFnCopiesUsedx5
import Derived.Test.YtfajacoagaamlaaQFnCopiesUsedx6
import Derived.Test.YtfajacoagaamlaaQFnCopiesUsedx7
namespace Go.Proofs.Ytfajacoagaamlaa.QFnCopiesUsed
open Go.RowKit Go.Proofs.YtfajacoagaamlaaW.PrintWords Go.Proofs.YtfajacoagaamlaaW.PrintLast Go.Proofs.YtfajacoagaamlaaW.PrintMore
attribute [local go_sem] max2_int min2_int max_two min_two max_three min_three max_four min_four   -- for this text's walks alone
set_option linter.unusedVariables false
set_option linter.unusedSimpArgs false

attribute [local go_sem high] eqA34
/-! ### laws_FnCopiesUsed: function 13 -/
mutual
def laws_FnCopiesUsed.j0 : Nat → List Int → List (List Int) → Int → List Int → List Int → Int → List Int → Int → List Int → Bool → Int → Int → Option (Bool)
  | 0, _, _, _, _, _, _, _, _, _, _, _, _ => none
  | k + 1, x3, x4, x6, x7, x9, x11, x16, x19, x20, x117, x334000, x334001 => if x117 = true then (some false) else (if x11 = 0 then (laws_FnCopiesUsed.j1 k x3 x4 x6 x7 x9 x16 x19 x20 ((wrap64 (x334000 * (x9.length : Int))) != (wrap64 ((x16.length : Int) * x334001)))) else (laws_FnCopiesUsed.j1 k x3 x4 x6 x7 x9 x16 x19 x20 false))
def laws_FnCopiesUsed.j1 : Nat → List Int → List (List Int) → Int → List Int → List Int → List Int → Int → List Int → Bool → Option (Bool)
  | 0, _, _, _, _, _, _, _, _, _ => none
  | k + 1, x3, x4, x6, x7, x9, x16, x19, x20, x132 => if x132 = true then (some false) else (if x19 = 0 then ((laws_f6sum.f k x20).bind fun t353 => (laws_FnCopiesUsed.j2 k x3 x4 x6 x7 x9 x16 (t353 != (x9.length : Int)))) else (laws_FnCopiesUsed.j2 k x3 x4 x6 x7 x9 x16 false))
def laws_FnCopiesUsed.j2 : Nat → List Int → List (List Int) → Int → List Int → List Int → List Int → Bool → Option (Bool)
  | 0, _, _, _, _, _, _, _ => none
  | k + 1, x3, x4, x6, x7, x9, x16, x141 => if x141 = true then (some false) else (laws_FnCopiesUsed.l0 k x3 x4 x6 x7 x9 x16 0)
def laws_FnCopiesUsed.l0 : Nat → List Int → List (List Int) → Int → List Int → List Int → List Int → Int → Option (Bool)
  | 0, _, _, _, _, _, _, _ => none
  | k + 1, x3, x4, x6, x7, x9, x16, x22 => if x22 < (x16.length : Int) then (if 0 ≤ x22 then (if 0 ≤ (rd x16 x22) then (if (rd x16 x22) < (x9.length : Int) then (if (rd x9 (rd x16 x22)) = 0 then (some false) else (laws_FnCopiesUsed.l0 k x3 x4 x6 x7 x9 x16 (wrap64 (x22 + 1)))) else (none)) else (none)) else (none)) else (if x6 = 0 then (laws_FnCopiesUsed.l1 k x3 x4 x7 0) else (some true))
def laws_FnCopiesUsed.l1 : Nat → List Int → List (List Int) → List Int → Int → Option (Bool)
  | 0, _, _, _, _ => none
  | k + 1, x3, x4, x7, x23 => if x23 < (x3.length : Int) then (if 0 ≤ x23 then (laws_FnCopiesUsed.l2 k x3 x4 x7 x23 ((rd x3 x23) != 1) 0) else (none)) else (some true)
def laws_FnCopiesUsed.l2 : Nat → List Int → List (List Int) → List Int → Int → Bool → Int → Option (Bool)
  | 0, _, _, _, _, _, _ => none
  | k + 1, x3, x4, x7, x23, x24, x25 => if x25 < (x7.length : Int) then (if x24 = true then (laws_FnCopiesUsed.l2 k x3 x4 x7 x23 true (wrap64 (x25 + 1))) else (if 0 ≤ x25 then (if 0 ≤ (rd x7 x25) then (if (rd x7 x25) < (x4.length : Int) then (if 0 ≤ x23 then (if x23 < ((rd_L1 x4 (rd x7 x25)).length : Int) then (laws_FnCopiesUsed.l2 k x3 x4 x7 x23 ((rd (rd_L1 x4 (rd x7 x25)) x23) == 0) (wrap64 (x25 + 1))) else (none)) else (none)) else (none)) else (none)) else (none))) else (if x24 = true then (laws_FnCopiesUsed.l1 k x3 x4 x7 (wrap64 (x23 + 1))) else (some false))
end
def laws_FnCopiesUsed.f (k : Nat) (l0 : List Int) : Option (Bool) := (laws_f6big.f l0).bind fun t308 => (if t308 = true then (some true) else ((spec_DrawFewestCopies.f k l0).bind fun bt309 => ((impl_FewestCopies.f k bt309.1 bt309.2).bind fun bt315 => ((spec_FewestCopies.f k bt309.1 bt309.2).bind fun bt319 => ((spec_DrawShareNotOriginal.f k l0).bind fun t323 => ((impl_ShareNotOriginal.f k t323).bind fun bt326 => ((spec_ShareNotOriginal.f k t323).bind fun bt330 => ((impl_NotOriginal.f k t323).bind fun bt334 => ((spec_NotOriginal.f k t323).bind fun bt338 => ((impl_CountStates.f k t323).bind fun bt342 => ((spec_CountStates.f k t323).bind fun bt346 => (if bt315.2 = bt319.2 then ((laws_f6ints.f k bt315.1 bt319.1).bind fun t350 => (if t350 = true then (if bt326.2.2 = bt330.2.2 then (if (!(bt326.1 == bt330.1) || (!(bt326.2.1 == bt330.2.1))) = true then (laws_FnCopiesUsed.j0 k bt309.1 bt309.2 bt315.2 bt319.1 t323 bt326.2.2 bt338.1 bt342.2 bt346.1 true bt330.1 bt330.2.1) else (if bt334.2 = bt338.2 then ((laws_f6ints.f k bt334.1 bt338.1).bind fun t351 => (if t351 = true then (if bt342.2 = bt346.2 then ((laws_f6ints.f k bt342.1 bt346.1).bind fun t352 => (laws_FnCopiesUsed.j0 k bt309.1 bt309.2 bt315.2 bt319.1 t323 bt326.2.2 bt338.1 bt342.2 bt346.1 (!t352) bt330.1 bt330.2.1)) else (laws_FnCopiesUsed.j0 k bt309.1 bt309.2 bt315.2 bt319.1 t323 bt326.2.2 bt338.1 bt342.2 bt346.1 true bt330.1 bt330.2.1)) else (laws_FnCopiesUsed.j0 k bt309.1 bt309.2 bt315.2 bt319.1 t323 bt326.2.2 bt338.1 bt342.2 bt346.1 true bt330.1 bt330.2.1))) else (laws_FnCopiesUsed.j0 k bt309.1 bt309.2 bt315.2 bt319.1 t323 bt326.2.2 bt338.1 bt342.2 bt346.1 true bt330.1 bt330.2.1))) else (laws_FnCopiesUsed.j0 k bt309.1 bt309.2 bt315.2 bt319.1 t323 bt326.2.2 bt338.1 bt342.2 bt346.1 true bt330.1 bt330.2.1)) else (laws_FnCopiesUsed.j0 k bt309.1 bt309.2 bt315.2 bt319.1 t323 bt326.2.2 bt338.1 bt342.2 bt346.1 true bt330.1 bt330.2.1))) else (laws_FnCopiesUsed.j0 k bt309.1 bt309.2 bt315.2 bt319.1 t323 bt326.2.2 bt338.1 bt342.2 bt346.1 true bt330.1 bt330.2.1)))))))))))))
theorem laws_FnCopiesUsed.mono_l : ∀ k, (∀ y0 y1 y2 y3 y4 y5 y6 y7 y8 y9 y10 y11, LeO (laws_FnCopiesUsed.j0 k y0 y1 y2 y3 y4 y5 y6 y7 y8 y9 y10 y11) (laws_FnCopiesUsed.j0 (k + 1) y0 y1 y2 y3 y4 y5 y6 y7 y8 y9 y10 y11)) ∧ (∀ y0 y1 y2 y3 y4 y5 y6 y7 y8, LeO (laws_FnCopiesUsed.j1 k y0 y1 y2 y3 y4 y5 y6 y7 y8) (laws_FnCopiesUsed.j1 (k + 1) y0 y1 y2 y3 y4 y5 y6 y7 y8)) ∧ (∀ y0 y1 y2 y3 y4 y5 y6, LeO (laws_FnCopiesUsed.j2 k y0 y1 y2 y3 y4 y5 y6) (laws_FnCopiesUsed.j2 (k + 1) y0 y1 y2 y3 y4 y5 y6)) ∧ (∀ y0 y1 y2 y3 y4 y5 y6, LeO (laws_FnCopiesUsed.l0 k y0 y1 y2 y3 y4 y5 y6) (laws_FnCopiesUsed.l0 (k + 1) y0 y1 y2 y3 y4 y5 y6)) ∧ (∀ y0 y1 y2 y3, LeO (laws_FnCopiesUsed.l1 k y0 y1 y2 y3) (laws_FnCopiesUsed.l1 (k + 1) y0 y1 y2 y3)) ∧ (∀ y0 y1 y2 y3 y4 y5, LeO (laws_FnCopiesUsed.l2 k y0 y1 y2 y3 y4 y5) (laws_FnCopiesUsed.l2 (k + 1) y0 y1 y2 y3 y4 y5))
  | 0 => ⟨fun _ _ _ _ _ _ _ _ _ _ _ _ r h => by simp [laws_FnCopiesUsed.j0] at h, fun _ _ _ _ _ _ _ _ _ r h => by simp [laws_FnCopiesUsed.j1] at h, fun _ _ _ _ _ _ _ r h => by simp [laws_FnCopiesUsed.j2] at h, fun _ _ _ _ _ _ _ r h => by simp [laws_FnCopiesUsed.l0] at h, fun _ _ _ _ r h => by simp [laws_FnCopiesUsed.l1] at h, fun _ _ _ _ _ _ r h => by simp [laws_FnCopiesUsed.l2] at h⟩
  | k + 1 => by
    obtain ⟨ih0, ih1, ih2, ih3, ih4, ih5⟩ := laws_FnCopiesUsed.mono_l k
    refine ⟨?_, ?_, ?_, ?_, ?_, ?_⟩
    · intro y0 y1 y2 y3 y4 y5 y6 y7 y8 y9 y10 y11
      unfold laws_FnCopiesUsed.j0
      repeat' first
      | (with_reducible exact ih0 _ _ _ _ _ _ _ _ _ _ _ _)
      | (with_reducible exact ih1 _ _ _ _ _ _ _ _ _)
      | (with_reducible exact ih2 _ _ _ _ _ _ _)
      | (with_reducible exact ih3 _ _ _ _ _ _ _)
      | (with_reducible exact ih4 _ _ _ _)
      | (with_reducible exact ih5 _ _ _ _ _ _)
      | (with_reducible exact impl_CountStates.mono _ _)
      | (with_reducible exact impl_FewestCopies.mono _ _ _)
      | (with_reducible exact impl_NotOriginal.mono _ _)
      | (with_reducible exact impl_ShareNotOriginal.mono _ _)
      | (with_reducible exact laws_f6ints.mono _ _ _)
      | (with_reducible exact laws_f6sum.mono _ _)
      | (with_reducible exact spec_CountStates.mono _ _)
      | (with_reducible exact spec_DrawFewestCopies.mono _ _)
      | (with_reducible exact spec_DrawShareNotOriginal.mono _ _)
      | (with_reducible exact spec_FewestCopies.mono _ _ _)
      | (with_reducible exact spec_NotOriginal.mono _ _)
      | (with_reducible exact spec_ShareNotOriginal.mono _ _)
      | (with_reducible exact LeO.refl _)
      | (with_reducible exact LeO.none _)
      | (with_reducible refine LeO.ite ?_ ?_)
      | (with_reducible refine LeO.bind ?_ (fun _ => ?_))
      | exact ih0 _ _ _ _ _ _ _ _ _ _ _ _
      | exact ih1 _ _ _ _ _ _ _ _ _
      | exact ih2 _ _ _ _ _ _ _
      | exact ih3 _ _ _ _ _ _ _
      | exact ih4 _ _ _ _
      | exact ih5 _ _ _ _ _ _
      | exact impl_CountStates.mono _ _
      | exact impl_FewestCopies.mono _ _ _
      | exact impl_NotOriginal.mono _ _
      | exact impl_ShareNotOriginal.mono _ _
      | exact laws_f6ints.mono _ _ _
      | exact laws_f6sum.mono _ _
      | exact spec_CountStates.mono _ _
      | exact spec_DrawFewestCopies.mono _ _
      | exact spec_DrawShareNotOriginal.mono _ _
      | exact spec_FewestCopies.mono _ _ _
      | exact spec_NotOriginal.mono _ _
      | exact spec_ShareNotOriginal.mono _ _
      | exact LeO.none _
      | refine LeO.ite ?_ ?_
      | refine LeO.bind ?_ (fun _ => ?_)
    · intro y0 y1 y2 y3 y4 y5 y6 y7 y8
      unfold laws_FnCopiesUsed.j1
      repeat' first
      | (with_reducible exact ih0 _ _ _ _ _ _ _ _ _ _ _ _)
      | (with_reducible exact ih1 _ _ _ _ _ _ _ _ _)
      | (with_reducible exact ih2 _ _ _ _ _ _ _)
      | (with_reducible exact ih3 _ _ _ _ _ _ _)
      | (with_reducible exact ih4 _ _ _ _)
      | (with_reducible exact ih5 _ _ _ _ _ _)
      | (with_reducible exact impl_CountStates.mono _ _)
      | (with_reducible exact impl_FewestCopies.mono _ _ _)
      | (with_reducible exact impl_NotOriginal.mono _ _)
      | (with_reducible exact impl_ShareNotOriginal.mono _ _)
      | (with_reducible exact laws_f6ints.mono _ _ _)
      | (with_reducible exact laws_f6sum.mono _ _)
      | (with_reducible exact spec_CountStates.mono _ _)
      | (with_reducible exact spec_DrawFewestCopies.mono _ _)
      | (with_reducible exact spec_DrawShareNotOriginal.mono _ _)
      | (with_reducible exact spec_FewestCopies.mono _ _ _)
      | (with_reducible exact spec_NotOriginal.mono _ _)
      | (with_reducible exact spec_ShareNotOriginal.mono _ _)
      | (with_reducible exact LeO.refl _)
      | (with_reducible exact LeO.none _)
      | (with_reducible refine LeO.ite ?_ ?_)
      | (with_reducible refine LeO.bind ?_ (fun _ => ?_))
      | exact ih0 _ _ _ _ _ _ _ _ _ _ _ _
      | exact ih1 _ _ _ _ _ _ _ _ _
      | exact ih2 _ _ _ _ _ _ _
      | exact ih3 _ _ _ _ _ _ _
      | exact ih4 _ _ _ _
      | exact ih5 _ _ _ _ _ _
      | exact impl_CountStates.mono _ _
      | exact impl_FewestCopies.mono _ _ _
      | exact impl_NotOriginal.mono _ _
      | exact impl_ShareNotOriginal.mono _ _
      | exact laws_f6ints.mono _ _ _
      | exact laws_f6sum.mono _ _
      | exact spec_CountStates.mono _ _
      | exact spec_DrawFewestCopies.mono _ _
      | exact spec_DrawShareNotOriginal.mono _ _
      | exact spec_FewestCopies.mono _ _ _
      | exact spec_NotOriginal.mono _ _
      | exact spec_ShareNotOriginal.mono _ _
      | exact LeO.none _
      | refine LeO.ite ?_ ?_
      | refine LeO.bind ?_ (fun _ => ?_)
    · intro y0 y1 y2 y3 y4 y5 y6
      unfold laws_FnCopiesUsed.j2
      repeat' first
      | (with_reducible exact ih0 _ _ _ _ _ _ _ _ _ _ _ _)
      | (with_reducible exact ih1 _ _ _ _ _ _ _ _ _)
      | (with_reducible exact ih2 _ _ _ _ _ _ _)
      | (with_reducible exact ih3 _ _ _ _ _ _ _)
      | (with_reducible exact ih4 _ _ _ _)
      | (with_reducible exact ih5 _ _ _ _ _ _)
      | (with_reducible exact impl_CountStates.mono _ _)
      | (with_reducible exact impl_FewestCopies.mono _ _ _)
      | (with_reducible exact impl_NotOriginal.mono _ _)
      | (with_reducible exact impl_ShareNotOriginal.mono _ _)
      | (with_reducible exact laws_f6ints.mono _ _ _)
      | (with_reducible exact laws_f6sum.mono _ _)
      | (with_reducible exact spec_CountStates.mono _ _)
      | (with_reducible exact spec_DrawFewestCopies.mono _ _)
      | (with_reducible exact spec_DrawShareNotOriginal.mono _ _)
      | (with_reducible exact spec_FewestCopies.mono _ _ _)
      | (with_reducible exact spec_NotOriginal.mono _ _)
      | (with_reducible exact spec_ShareNotOriginal.mono _ _)
      | (with_reducible exact LeO.refl _)
      | (with_reducible exact LeO.none _)
      | (with_reducible refine LeO.ite ?_ ?_)
      | (with_reducible refine LeO.bind ?_ (fun _ => ?_))
      | exact ih0 _ _ _ _ _ _ _ _ _ _ _ _
      | exact ih1 _ _ _ _ _ _ _ _ _
      | exact ih2 _ _ _ _ _ _ _
      | exact ih3 _ _ _ _ _ _ _
      | exact ih4 _ _ _ _
      | exact ih5 _ _ _ _ _ _
      | exact impl_CountStates.mono _ _
      | exact impl_FewestCopies.mono _ _ _
      | exact impl_NotOriginal.mono _ _
      | exact impl_ShareNotOriginal.mono _ _
      | exact laws_f6ints.mono _ _ _
      | exact laws_f6sum.mono _ _
      | exact spec_CountStates.mono _ _
      | exact spec_DrawFewestCopies.mono _ _
      | exact spec_DrawShareNotOriginal.mono _ _
      | exact spec_FewestCopies.mono _ _ _
      | exact spec_NotOriginal.mono _ _
      | exact spec_ShareNotOriginal.mono _ _
      | exact LeO.none _
      | refine LeO.ite ?_ ?_
      | refine LeO.bind ?_ (fun _ => ?_)
    · intro y0 y1 y2 y3 y4 y5 y6
      unfold laws_FnCopiesUsed.l0
      repeat' first
      | (with_reducible exact ih0 _ _ _ _ _ _ _ _ _ _ _ _)
      | (with_reducible exact ih1 _ _ _ _ _ _ _ _ _)
      | (with_reducible exact ih2 _ _ _ _ _ _ _)
      | (with_reducible exact ih3 _ _ _ _ _ _ _)
      | (with_reducible exact ih4 _ _ _ _)
      | (with_reducible exact ih5 _ _ _ _ _ _)
      | (with_reducible exact impl_CountStates.mono _ _)
      | (with_reducible exact impl_FewestCopies.mono _ _ _)
      | (with_reducible exact impl_NotOriginal.mono _ _)
      | (with_reducible exact impl_ShareNotOriginal.mono _ _)
      | (with_reducible exact laws_f6ints.mono _ _ _)
      | (with_reducible exact laws_f6sum.mono _ _)
      | (with_reducible exact spec_CountStates.mono _ _)
      | (with_reducible exact spec_DrawFewestCopies.mono _ _)
      | (with_reducible exact spec_DrawShareNotOriginal.mono _ _)
      | (with_reducible exact spec_FewestCopies.mono _ _ _)
      | (with_reducible exact spec_NotOriginal.mono _ _)
      | (with_reducible exact spec_ShareNotOriginal.mono _ _)
      | (with_reducible exact LeO.refl _)
      | (with_reducible exact LeO.none _)
      | (with_reducible refine LeO.ite ?_ ?_)
      | (with_reducible refine LeO.bind ?_ (fun _ => ?_))
      | exact ih0 _ _ _ _ _ _ _ _ _ _ _ _
      | exact ih1 _ _ _ _ _ _ _ _ _
      | exact ih2 _ _ _ _ _ _ _
      | exact ih3 _ _ _ _ _ _ _
      | exact ih4 _ _ _ _
      | exact ih5 _ _ _ _ _ _
      | exact impl_CountStates.mono _ _
      | exact impl_FewestCopies.mono _ _ _
      | exact impl_NotOriginal.mono _ _
      | exact impl_ShareNotOriginal.mono _ _
      | exact laws_f6ints.mono _ _ _
      | exact laws_f6sum.mono _ _
      | exact spec_CountStates.mono _ _
      | exact spec_DrawFewestCopies.mono _ _
      | exact spec_DrawShareNotOriginal.mono _ _
      | exact spec_FewestCopies.mono _ _ _
      | exact spec_NotOriginal.mono _ _
      | exact spec_ShareNotOriginal.mono _ _
      | exact LeO.none _
      | refine LeO.ite ?_ ?_
      | refine LeO.bind ?_ (fun _ => ?_)
    · intro y0 y1 y2 y3
      unfold laws_FnCopiesUsed.l1
      repeat' first
      | (with_reducible exact ih0 _ _ _ _ _ _ _ _ _ _ _ _)
      | (with_reducible exact ih1 _ _ _ _ _ _ _ _ _)
      | (with_reducible exact ih2 _ _ _ _ _ _ _)
      | (with_reducible exact ih3 _ _ _ _ _ _ _)
      | (with_reducible exact ih4 _ _ _ _)
      | (with_reducible exact ih5 _ _ _ _ _ _)
      | (with_reducible exact impl_CountStates.mono _ _)
      | (with_reducible exact impl_FewestCopies.mono _ _ _)
      | (with_reducible exact impl_NotOriginal.mono _ _)
      | (with_reducible exact impl_ShareNotOriginal.mono _ _)
      | (with_reducible exact laws_f6ints.mono _ _ _)
      | (with_reducible exact laws_f6sum.mono _ _)
      | (with_reducible exact spec_CountStates.mono _ _)
      | (with_reducible exact spec_DrawFewestCopies.mono _ _)
      | (with_reducible exact spec_DrawShareNotOriginal.mono _ _)
      | (with_reducible exact spec_FewestCopies.mono _ _ _)
      | (with_reducible exact spec_NotOriginal.mono _ _)
      | (with_reducible exact spec_ShareNotOriginal.mono _ _)
      | (with_reducible exact LeO.refl _)
      | (with_reducible exact LeO.none _)
      | (with_reducible refine LeO.ite ?_ ?_)
      | (with_reducible refine LeO.bind ?_ (fun _ => ?_))
      | exact ih0 _ _ _ _ _ _ _ _ _ _ _ _
      | exact ih1 _ _ _ _ _ _ _ _ _
      | exact ih2 _ _ _ _ _ _ _
      | exact ih3 _ _ _ _ _ _ _
      | exact ih4 _ _ _ _
      | exact ih5 _ _ _ _ _ _
      | exact impl_CountStates.mono _ _
      | exact impl_FewestCopies.mono _ _ _
      | exact impl_NotOriginal.mono _ _
      | exact impl_ShareNotOriginal.mono _ _
      | exact laws_f6ints.mono _ _ _
      | exact laws_f6sum.mono _ _
      | exact spec_CountStates.mono _ _
      | exact spec_DrawFewestCopies.mono _ _
      | exact spec_DrawShareNotOriginal.mono _ _
      | exact spec_FewestCopies.mono _ _ _
      | exact spec_NotOriginal.mono _ _
      | exact spec_ShareNotOriginal.mono _ _
      | exact LeO.none _
      | refine LeO.ite ?_ ?_
      | refine LeO.bind ?_ (fun _ => ?_)
    · intro y0 y1 y2 y3 y4 y5
      unfold laws_FnCopiesUsed.l2
      repeat' first
      | (with_reducible exact ih0 _ _ _ _ _ _ _ _ _ _ _ _)
      | (with_reducible exact ih1 _ _ _ _ _ _ _ _ _)
      | (with_reducible exact ih2 _ _ _ _ _ _ _)
      | (with_reducible exact ih3 _ _ _ _ _ _ _)
      | (with_reducible exact ih4 _ _ _ _)
      | (with_reducible exact ih5 _ _ _ _ _ _)
      | (with_reducible exact impl_CountStates.mono _ _)
      | (with_reducible exact impl_FewestCopies.mono _ _ _)
      | (with_reducible exact impl_NotOriginal.mono _ _)
      | (with_reducible exact impl_ShareNotOriginal.mono _ _)
      | (with_reducible exact laws_f6ints.mono _ _ _)
      | (with_reducible exact laws_f6sum.mono _ _)
      | (with_reducible exact spec_CountStates.mono _ _)
      | (with_reducible exact spec_DrawFewestCopies.mono _ _)
      | (with_reducible exact spec_DrawShareNotOriginal.mono _ _)
      | (with_reducible exact spec_FewestCopies.mono _ _ _)
      | (with_reducible exact spec_NotOriginal.mono _ _)
      | (with_reducible exact spec_ShareNotOriginal.mono _ _)
      | (with_reducible exact LeO.refl _)
      | (with_reducible exact LeO.none _)
      | (with_reducible refine LeO.ite ?_ ?_)
      | (with_reducible refine LeO.bind ?_ (fun _ => ?_))
      | exact ih0 _ _ _ _ _ _ _ _ _ _ _ _
      | exact ih1 _ _ _ _ _ _ _ _ _
      | exact ih2 _ _ _ _ _ _ _
      | exact ih3 _ _ _ _ _ _ _
      | exact ih4 _ _ _ _
      | exact ih5 _ _ _ _ _ _
      | exact impl_CountStates.mono _ _
      | exact impl_FewestCopies.mono _ _ _
      | exact impl_NotOriginal.mono _ _
      | exact impl_ShareNotOriginal.mono _ _
      | exact laws_f6ints.mono _ _ _
      | exact laws_f6sum.mono _ _
      | exact spec_CountStates.mono _ _
      | exact spec_DrawFewestCopies.mono _ _
      | exact spec_DrawShareNotOriginal.mono _ _
      | exact spec_FewestCopies.mono _ _ _
      | exact spec_NotOriginal.mono _ _
      | exact spec_ShareNotOriginal.mono _ _
      | exact LeO.none _
      | refine LeO.ite ?_ ?_
      | refine LeO.bind ?_ (fun _ => ?_)
theorem laws_FnCopiesUsed.mono : ∀ a0 k, LeO (laws_FnCopiesUsed.f k a0) (laws_FnCopiesUsed.f (k + 1) a0) := by
  intro a0 k
  obtain ⟨ih0, ih1, ih2, ih3, ih4, ih5⟩ := laws_FnCopiesUsed.mono_l k
  unfold laws_FnCopiesUsed.f
  repeat' first
      | (with_reducible exact ih0 _ _ _ _ _ _ _ _ _ _ _ _)
      | (with_reducible exact ih1 _ _ _ _ _ _ _ _ _)
      | (with_reducible exact ih2 _ _ _ _ _ _ _)
      | (with_reducible exact ih3 _ _ _ _ _ _ _)
      | (with_reducible exact ih4 _ _ _ _)
      | (with_reducible exact ih5 _ _ _ _ _ _)
      | (with_reducible exact impl_CountStates.mono _ _)
      | (with_reducible exact impl_FewestCopies.mono _ _ _)
      | (with_reducible exact impl_NotOriginal.mono _ _)
      | (with_reducible exact impl_ShareNotOriginal.mono _ _)
      | (with_reducible exact laws_f6ints.mono _ _ _)
      | (with_reducible exact laws_f6sum.mono _ _)
      | (with_reducible exact spec_CountStates.mono _ _)
      | (with_reducible exact spec_DrawFewestCopies.mono _ _)
      | (with_reducible exact spec_DrawShareNotOriginal.mono _ _)
      | (with_reducible exact spec_FewestCopies.mono _ _ _)
      | (with_reducible exact spec_NotOriginal.mono _ _)
      | (with_reducible exact spec_ShareNotOriginal.mono _ _)
      | (with_reducible exact LeO.refl _)
      | (with_reducible exact LeO.none _)
      | (with_reducible refine LeO.ite ?_ ?_)
      | (with_reducible refine LeO.bind ?_ (fun _ => ?_))
      | exact ih0 _ _ _ _ _ _ _ _ _ _ _ _
      | exact ih1 _ _ _ _ _ _ _ _ _
      | exact ih2 _ _ _ _ _ _ _
      | exact ih3 _ _ _ _ _ _ _
      | exact ih4 _ _ _ _
      | exact ih5 _ _ _ _ _ _
      | exact impl_CountStates.mono _ _
      | exact impl_FewestCopies.mono _ _ _
      | exact impl_NotOriginal.mono _ _
      | exact impl_ShareNotOriginal.mono _ _
      | exact laws_f6ints.mono _ _ _
      | exact laws_f6sum.mono _ _
      | exact spec_CountStates.mono _ _
      | exact spec_DrawFewestCopies.mono _ _
      | exact spec_DrawShareNotOriginal.mono _ _
      | exact spec_FewestCopies.mono _ _ _
      | exact spec_NotOriginal.mono _ _
      | exact spec_ShareNotOriginal.mono _ _
      | exact LeO.none _
      | refine LeO.ite ?_ ?_
      | refine LeO.bind ?_ (fun _ => ?_)
set_option maxHeartbeats 8000000 in
set_option maxRecDepth 100000 in
theorem laws_FnCopiesUsed.calls (k : Nat) (A0 : Option Addr) (c0 : Nat) (l0 : List Int) (r : Bool) (w : World) (hr0 : Kd.C (Kd.int .u8) w A0 l0.length l0) (hc0 : l0.length ≤ c0) (h : laws_FnCopiesUsed.f k l0 = some r) :
    Calls Try.prog 13 #[.slice A0 l0.length c0] w fun e w' => e = .returned (.bool r) ∧ Below w.heap.size w w' := by
  have hu34 := Try.underlying34
  have HR0 := Aside0.mk hr0
  have HC0 := Aside0.mk hc0
  clear hr0 hc0
  have HB := Aside0.mk (Below.refl w.heap.size w)
  have H : ((laws_f6big.f l0).bind fun t308 => (if t308 = true then (some true) else ((spec_DrawFewestCopies.f k l0).bind fun bt309 => ((impl_FewestCopies.f k bt309.1 bt309.2).bind fun bt315 => ((spec_FewestCopies.f k bt309.1 bt309.2).bind fun bt319 => ((spec_DrawShareNotOriginal.f k l0).bind fun t323 => ((impl_ShareNotOriginal.f k t323).bind fun bt326 => ((spec_ShareNotOriginal.f k t323).bind fun bt330 => ((impl_NotOriginal.f k t323).bind fun bt334 => ((spec_NotOriginal.f k t323).bind fun bt338 => ((impl_CountStates.f k t323).bind fun bt342 => ((spec_CountStates.f k t323).bind fun bt346 => (if bt315.2 = bt319.2 then ((laws_f6ints.f k bt315.1 bt319.1).bind fun t350 => (if t350 = true then (if bt326.2.2 = bt330.2.2 then (if (!(bt326.1 == bt330.1) || (!(bt326.2.1 == bt330.2.1))) = true then (laws_FnCopiesUsed.j0 k bt309.1 bt309.2 bt315.2 bt319.1 t323 bt326.2.2 bt338.1 bt342.2 bt346.1 true bt330.1 bt330.2.1) else (if bt334.2 = bt338.2 then ((laws_f6ints.f k bt334.1 bt338.1).bind fun t351 => (if t351 = true then (if bt342.2 = bt346.2 then ((laws_f6ints.f k bt342.1 bt346.1).bind fun t352 => (laws_FnCopiesUsed.j0 k bt309.1 bt309.2 bt315.2 bt319.1 t323 bt326.2.2 bt338.1 bt342.2 bt346.1 (!t352) bt330.1 bt330.2.1)) else (laws_FnCopiesUsed.j0 k bt309.1 bt309.2 bt315.2 bt319.1 t323 bt326.2.2 bt338.1 bt342.2 bt346.1 true bt330.1 bt330.2.1)) else (laws_FnCopiesUsed.j0 k bt309.1 bt309.2 bt315.2 bt319.1 t323 bt326.2.2 bt338.1 bt342.2 bt346.1 true bt330.1 bt330.2.1))) else (laws_FnCopiesUsed.j0 k bt309.1 bt309.2 bt315.2 bt319.1 t323 bt326.2.2 bt338.1 bt342.2 bt346.1 true bt330.1 bt330.2.1))) else (laws_FnCopiesUsed.j0 k bt309.1 bt309.2 bt315.2 bt319.1 t323 bt326.2.2 bt338.1 bt342.2 bt346.1 true bt330.1 bt330.2.1)) else (laws_FnCopiesUsed.j0 k bt309.1 bt309.2 bt315.2 bt319.1 t323 bt326.2.2 bt338.1 bt342.2 bt346.1 true bt330.1 bt330.2.1))) else (laws_FnCopiesUsed.j0 k bt309.1 bt309.2 bt315.2 bt319.1 t323 bt326.2.2 bt338.1 bt342.2 bt346.1 true bt330.1 bt330.2.1)))))))))))))) = some r := h
  clear h
  replace H := Option.bind_eq_some_iff.mp H
  obtain ⟨t308, A20, H⟩ := H
  replace H : (if t308 = true then (some true) else ((spec_DrawFewestCopies.f k l0).bind fun bt309 => ((impl_FewestCopies.f k bt309.1 bt309.2).bind fun bt315 => ((spec_FewestCopies.f k bt309.1 bt309.2).bind fun bt319 => ((spec_DrawShareNotOriginal.f k l0).bind fun t323 => ((impl_ShareNotOriginal.f k t323).bind fun bt326 => ((spec_ShareNotOriginal.f k t323).bind fun bt330 => ((impl_NotOriginal.f k t323).bind fun bt334 => ((spec_NotOriginal.f k t323).bind fun bt338 => ((impl_CountStates.f k t323).bind fun bt342 => ((spec_CountStates.f k t323).bind fun bt346 => (if bt315.2 = bt319.2 then ((laws_f6ints.f k bt315.1 bt319.1).bind fun t350 => (if t350 = true then (if bt326.2.2 = bt330.2.2 then (if (!(bt326.1 == bt330.1) || (!(bt326.2.1 == bt330.2.1))) = true then (laws_FnCopiesUsed.j0 k bt309.1 bt309.2 bt315.2 bt319.1 t323 bt326.2.2 bt338.1 bt342.2 bt346.1 true bt330.1 bt330.2.1) else (if bt334.2 = bt338.2 then ((laws_f6ints.f k bt334.1 bt338.1).bind fun t351 => (if t351 = true then (if bt342.2 = bt346.2 then ((laws_f6ints.f k bt342.1 bt346.1).bind fun t352 => (laws_FnCopiesUsed.j0 k bt309.1 bt309.2 bt315.2 bt319.1 t323 bt326.2.2 bt338.1 bt342.2 bt346.1 (!t352) bt330.1 bt330.2.1)) else (laws_FnCopiesUsed.j0 k bt309.1 bt309.2 bt315.2 bt319.1 t323 bt326.2.2 bt338.1 bt342.2 bt346.1 true bt330.1 bt330.2.1)) else (laws_FnCopiesUsed.j0 k bt309.1 bt309.2 bt315.2 bt319.1 t323 bt326.2.2 bt338.1 bt342.2 bt346.1 true bt330.1 bt330.2.1))) else (laws_FnCopiesUsed.j0 k bt309.1 bt309.2 bt315.2 bt319.1 t323 bt326.2.2 bt338.1 bt342.2 bt346.1 true bt330.1 bt330.2.1))) else (laws_FnCopiesUsed.j0 k bt309.1 bt309.2 bt315.2 bt319.1 t323 bt326.2.2 bt338.1 bt342.2 bt346.1 true bt330.1 bt330.2.1)) else (laws_FnCopiesUsed.j0 k bt309.1 bt309.2 bt315.2 bt319.1 t323 bt326.2.2 bt338.1 bt342.2 bt346.1 true bt330.1 bt330.2.1))) else (laws_FnCopiesUsed.j0 k bt309.1 bt309.2 bt315.2 bt319.1 t323 bt326.2.2 bt338.1 bt342.2 bt346.1 true bt330.1 bt330.2.1))))))))))))) = some r := H
  have A2 := Aside0.mk A20
  clear A20
  by_cases c3 : t308 = true
  · subst c3
    have H1 : (some true) = some r := by rw [if_pos rfl] at H; exact H
    clear H
    have H := H1
    clear H1
    obtain rfl := Option.some.inj H
    go_enter Try.func13, Try.ntmps13
    go_wp2_with (first | ((with_reducible refine gate_callee (f := 49) rfl ?_); refine goesL_ (some 27) rfl rfl Try.func49 (by kernel_rfl) rfl #[.slice A0 l0.length c0] rfl (by (try simp only [List.map_toArray, List.map_cons, List.map_nil]); first | done | rfl | (simp only [List.length_drop, List.length_take]; rfl)) ?_; (with_reducible refine (laws_f6big.calls _ _ l0 true _ ?side1 ?side2 A2.out).mono ?_); (case side1 => repeat (first | exact HR0.out | (with_reducible refine Kd.C_alloc ?_ _) | (with_reducible refine Kd.C_drewN ?_ _) | (with_reducible refine Kd.C_drew ?_))); (case side2 => exact HC0.out); rintro e w' ⟨rfl, ⟨nd, rfl⟩⟩; refine ⟨_, rfl, ?_⟩))
    go_ret
    exact ⟨by first | rfl | (simp [errW_none, errW_some] <;> rfl) | (simp [*, errW_none, errW_some] <;> rfl), by repeat (first | (with_reducible first | exact HB.out | apply below_alloc | apply pw_below_drewN | apply below_drew1) | exact HB.out)⟩
  · replace c3 := Bool.eq_false_iff.mpr c3
    subst c3
    have H1 : ((spec_DrawFewestCopies.f k l0).bind fun bt309 => ((impl_FewestCopies.f k bt309.1 bt309.2).bind fun bt315 => ((spec_FewestCopies.f k bt309.1 bt309.2).bind fun bt319 => ((spec_DrawShareNotOriginal.f k l0).bind fun t323 => ((impl_ShareNotOriginal.f k t323).bind fun bt326 => ((spec_ShareNotOriginal.f k t323).bind fun bt330 => ((impl_NotOriginal.f k t323).bind fun bt334 => ((spec_NotOriginal.f k t323).bind fun bt338 => ((impl_CountStates.f k t323).bind fun bt342 => ((spec_CountStates.f k t323).bind fun bt346 => (if bt315.2 = bt319.2 then ((laws_f6ints.f k bt315.1 bt319.1).bind fun t350 => (if t350 = true then (if bt326.2.2 = bt330.2.2 then (if (!(bt326.1 == bt330.1) || (!(bt326.2.1 == bt330.2.1))) = true then (laws_FnCopiesUsed.j0 k bt309.1 bt309.2 bt315.2 bt319.1 t323 bt326.2.2 bt338.1 bt342.2 bt346.1 true bt330.1 bt330.2.1) else (if bt334.2 = bt338.2 then ((laws_f6ints.f k bt334.1 bt338.1).bind fun t351 => (if t351 = true then (if bt342.2 = bt346.2 then ((laws_f6ints.f k bt342.1 bt346.1).bind fun t352 => (laws_FnCopiesUsed.j0 k bt309.1 bt309.2 bt315.2 bt319.1 t323 bt326.2.2 bt338.1 bt342.2 bt346.1 (!t352) bt330.1 bt330.2.1)) else (laws_FnCopiesUsed.j0 k bt309.1 bt309.2 bt315.2 bt319.1 t323 bt326.2.2 bt338.1 bt342.2 bt346.1 true bt330.1 bt330.2.1)) else (laws_FnCopiesUsed.j0 k bt309.1 bt309.2 bt315.2 bt319.1 t323 bt326.2.2 bt338.1 bt342.2 bt346.1 true bt330.1 bt330.2.1))) else (laws_FnCopiesUsed.j0 k bt309.1 bt309.2 bt315.2 bt319.1 t323 bt326.2.2 bt338.1 bt342.2 bt346.1 true bt330.1 bt330.2.1))) else (laws_FnCopiesUsed.j0 k bt309.1 bt309.2 bt315.2 bt319.1 t323 bt326.2.2 bt338.1 bt342.2 bt346.1 true bt330.1 bt330.2.1)) else (laws_FnCopiesUsed.j0 k bt309.1 bt309.2 bt315.2 bt319.1 t323 bt326.2.2 bt338.1 bt342.2 bt346.1 true bt330.1 bt330.2.1))) else (laws_FnCopiesUsed.j0 k bt309.1 bt309.2 bt315.2 bt319.1 t323 bt326.2.2 bt338.1 bt342.2 bt346.1 true bt330.1 bt330.2.1)))))))))))) = some r := by rw [if_neg (show ¬ (false = true) by decide)] at H; exact H
    clear H
    have H := H1
    clear H1
    replace H := Option.bind_eq_some_iff.mp H
    obtain ⟨⟨t309, t310⟩, A40, H⟩ := H
    replace H : ((impl_FewestCopies.f k t309 t310).bind fun bt315 => ((spec_FewestCopies.f k t309 t310).bind fun bt319 => ((spec_DrawShareNotOriginal.f k l0).bind fun t323 => ((impl_ShareNotOriginal.f k t323).bind fun bt326 => ((spec_ShareNotOriginal.f k t323).bind fun bt330 => ((impl_NotOriginal.f k t323).bind fun bt334 => ((spec_NotOriginal.f k t323).bind fun bt338 => ((impl_CountStates.f k t323).bind fun bt342 => ((spec_CountStates.f k t323).bind fun bt346 => (if bt315.2 = bt319.2 then ((laws_f6ints.f k bt315.1 bt319.1).bind fun t350 => (if t350 = true then (if bt326.2.2 = bt330.2.2 then (if (!(bt326.1 == bt330.1) || (!(bt326.2.1 == bt330.2.1))) = true then (laws_FnCopiesUsed.j0 k t309 t310 bt315.2 bt319.1 t323 bt326.2.2 bt338.1 bt342.2 bt346.1 true bt330.1 bt330.2.1) else (if bt334.2 = bt338.2 then ((laws_f6ints.f k bt334.1 bt338.1).bind fun t351 => (if t351 = true then (if bt342.2 = bt346.2 then ((laws_f6ints.f k bt342.1 bt346.1).bind fun t352 => (laws_FnCopiesUsed.j0 k t309 t310 bt315.2 bt319.1 t323 bt326.2.2 bt338.1 bt342.2 bt346.1 (!t352) bt330.1 bt330.2.1)) else (laws_FnCopiesUsed.j0 k t309 t310 bt315.2 bt319.1 t323 bt326.2.2 bt338.1 bt342.2 bt346.1 true bt330.1 bt330.2.1)) else (laws_FnCopiesUsed.j0 k t309 t310 bt315.2 bt319.1 t323 bt326.2.2 bt338.1 bt342.2 bt346.1 true bt330.1 bt330.2.1))) else (laws_FnCopiesUsed.j0 k t309 t310 bt315.2 bt319.1 t323 bt326.2.2 bt338.1 bt342.2 bt346.1 true bt330.1 bt330.2.1))) else (laws_FnCopiesUsed.j0 k t309 t310 bt315.2 bt319.1 t323 bt326.2.2 bt338.1 bt342.2 bt346.1 true bt330.1 bt330.2.1)) else (laws_FnCopiesUsed.j0 k t309 t310 bt315.2 bt319.1 t323 bt326.2.2 bt338.1 bt342.2 bt346.1 true bt330.1 bt330.2.1))) else (laws_FnCopiesUsed.j0 k t309 t310 bt315.2 bt319.1 t323 bt326.2.2 bt338.1 bt342.2 bt346.1 true bt330.1 bt330.2.1))))))))))) = some r := H
    have A4 := Aside0.mk A40
    clear A40
    replace H := Option.bind_eq_some_iff.mp H
    obtain ⟨⟨t315, t316⟩, A50, H⟩ := H
    replace H : ((spec_FewestCopies.f k t309 t310).bind fun bt319 => ((spec_DrawShareNotOriginal.f k l0).bind fun t323 => ((impl_ShareNotOriginal.f k t323).bind fun bt326 => ((spec_ShareNotOriginal.f k t323).bind fun bt330 => ((impl_NotOriginal.f k t323).bind fun bt334 => ((spec_NotOriginal.f k t323).bind fun bt338 => ((impl_CountStates.f k t323).bind fun bt342 => ((spec_CountStates.f k t323).bind fun bt346 => (if t316 = bt319.2 then ((laws_f6ints.f k t315 bt319.1).bind fun t350 => (if t350 = true then (if bt326.2.2 = bt330.2.2 then (if (!(bt326.1 == bt330.1) || (!(bt326.2.1 == bt330.2.1))) = true then (laws_FnCopiesUsed.j0 k t309 t310 t316 bt319.1 t323 bt326.2.2 bt338.1 bt342.2 bt346.1 true bt330.1 bt330.2.1) else (if bt334.2 = bt338.2 then ((laws_f6ints.f k bt334.1 bt338.1).bind fun t351 => (if t351 = true then (if bt342.2 = bt346.2 then ((laws_f6ints.f k bt342.1 bt346.1).bind fun t352 => (laws_FnCopiesUsed.j0 k t309 t310 t316 bt319.1 t323 bt326.2.2 bt338.1 bt342.2 bt346.1 (!t352) bt330.1 bt330.2.1)) else (laws_FnCopiesUsed.j0 k t309 t310 t316 bt319.1 t323 bt326.2.2 bt338.1 bt342.2 bt346.1 true bt330.1 bt330.2.1)) else (laws_FnCopiesUsed.j0 k t309 t310 t316 bt319.1 t323 bt326.2.2 bt338.1 bt342.2 bt346.1 true bt330.1 bt330.2.1))) else (laws_FnCopiesUsed.j0 k t309 t310 t316 bt319.1 t323 bt326.2.2 bt338.1 bt342.2 bt346.1 true bt330.1 bt330.2.1))) else (laws_FnCopiesUsed.j0 k t309 t310 t316 bt319.1 t323 bt326.2.2 bt338.1 bt342.2 bt346.1 true bt330.1 bt330.2.1)) else (laws_FnCopiesUsed.j0 k t309 t310 t316 bt319.1 t323 bt326.2.2 bt338.1 bt342.2 bt346.1 true bt330.1 bt330.2.1))) else (laws_FnCopiesUsed.j0 k t309 t310 t316 bt319.1 t323 bt326.2.2 bt338.1 bt342.2 bt346.1 true bt330.1 bt330.2.1)))))))))) = some r := H
    have A5 := Aside0.mk A50
    clear A50
    replace H := Option.bind_eq_some_iff.mp H
    obtain ⟨⟨t319, t320⟩, A60, H⟩ := H
    replace H : ((spec_DrawShareNotOriginal.f k l0).bind fun t323 => ((impl_ShareNotOriginal.f k t323).bind fun bt326 => ((spec_ShareNotOriginal.f k t323).bind fun bt330 => ((impl_NotOriginal.f k t323).bind fun bt334 => ((spec_NotOriginal.f k t323).bind fun bt338 => ((impl_CountStates.f k t323).bind fun bt342 => ((spec_CountStates.f k t323).bind fun bt346 => (if t316 = t320 then ((laws_f6ints.f k t315 t319).bind fun t350 => (if t350 = true then (if bt326.2.2 = bt330.2.2 then (if (!(bt326.1 == bt330.1) || (!(bt326.2.1 == bt330.2.1))) = true then (laws_FnCopiesUsed.j0 k t309 t310 t316 t319 t323 bt326.2.2 bt338.1 bt342.2 bt346.1 true bt330.1 bt330.2.1) else (if bt334.2 = bt338.2 then ((laws_f6ints.f k bt334.1 bt338.1).bind fun t351 => (if t351 = true then (if bt342.2 = bt346.2 then ((laws_f6ints.f k bt342.1 bt346.1).bind fun t352 => (laws_FnCopiesUsed.j0 k t309 t310 t316 t319 t323 bt326.2.2 bt338.1 bt342.2 bt346.1 (!t352) bt330.1 bt330.2.1)) else (laws_FnCopiesUsed.j0 k t309 t310 t316 t319 t323 bt326.2.2 bt338.1 bt342.2 bt346.1 true bt330.1 bt330.2.1)) else (laws_FnCopiesUsed.j0 k t309 t310 t316 t319 t323 bt326.2.2 bt338.1 bt342.2 bt346.1 true bt330.1 bt330.2.1))) else (laws_FnCopiesUsed.j0 k t309 t310 t316 t319 t323 bt326.2.2 bt338.1 bt342.2 bt346.1 true bt330.1 bt330.2.1))) else (laws_FnCopiesUsed.j0 k t309 t310 t316 t319 t323 bt326.2.2 bt338.1 bt342.2 bt346.1 true bt330.1 bt330.2.1)) else (laws_FnCopiesUsed.j0 k t309 t310 t316 t319 t323 bt326.2.2 bt338.1 bt342.2 bt346.1 true bt330.1 bt330.2.1))) else (laws_FnCopiesUsed.j0 k t309 t310 t316 t319 t323 bt326.2.2 bt338.1 bt342.2 bt346.1 true bt330.1 bt330.2.1))))))))) = some r := H
    have A6 := Aside0.mk A60
    clear A60
    replace H := Option.bind_eq_some_iff.mp H
    obtain ⟨t323, A70, H⟩ := H
    replace H : ((impl_ShareNotOriginal.f k t323).bind fun bt326 => ((spec_ShareNotOriginal.f k t323).bind fun bt330 => ((impl_NotOriginal.f k t323).bind fun bt334 => ((spec_NotOriginal.f k t323).bind fun bt338 => ((impl_CountStates.f k t323).bind fun bt342 => ((spec_CountStates.f k t323).bind fun bt346 => (if t316 = t320 then ((laws_f6ints.f k t315 t319).bind fun t350 => (if t350 = true then (if bt326.2.2 = bt330.2.2 then (if (!(bt326.1 == bt330.1) || (!(bt326.2.1 == bt330.2.1))) = true then (laws_FnCopiesUsed.j0 k t309 t310 t316 t319 t323 bt326.2.2 bt338.1 bt342.2 bt346.1 true bt330.1 bt330.2.1) else (if bt334.2 = bt338.2 then ((laws_f6ints.f k bt334.1 bt338.1).bind fun t351 => (if t351 = true then (if bt342.2 = bt346.2 then ((laws_f6ints.f k bt342.1 bt346.1).bind fun t352 => (laws_FnCopiesUsed.j0 k t309 t310 t316 t319 t323 bt326.2.2 bt338.1 bt342.2 bt346.1 (!t352) bt330.1 bt330.2.1)) else (laws_FnCopiesUsed.j0 k t309 t310 t316 t319 t323 bt326.2.2 bt338.1 bt342.2 bt346.1 true bt330.1 bt330.2.1)) else (laws_FnCopiesUsed.j0 k t309 t310 t316 t319 t323 bt326.2.2 bt338.1 bt342.2 bt346.1 true bt330.1 bt330.2.1))) else (laws_FnCopiesUsed.j0 k t309 t310 t316 t319 t323 bt326.2.2 bt338.1 bt342.2 bt346.1 true bt330.1 bt330.2.1))) else (laws_FnCopiesUsed.j0 k t309 t310 t316 t319 t323 bt326.2.2 bt338.1 bt342.2 bt346.1 true bt330.1 bt330.2.1)) else (laws_FnCopiesUsed.j0 k t309 t310 t316 t319 t323 bt326.2.2 bt338.1 bt342.2 bt346.1 true bt330.1 bt330.2.1))) else (laws_FnCopiesUsed.j0 k t309 t310 t316 t319 t323 bt326.2.2 bt338.1 bt342.2 bt346.1 true bt330.1 bt330.2.1)))))))) = some r := H
    have A7 := Aside0.mk A70
    clear A70
    replace H := Option.bind_eq_some_iff.mp H
    obtain ⟨⟨t326, t327, t328⟩, A80, H⟩ := H
    replace H : ((spec_ShareNotOriginal.f k t323).bind fun bt330 => ((impl_NotOriginal.f k t323).bind fun bt334 => ((spec_NotOriginal.f k t323).bind fun bt338 => ((impl_CountStates.f k t323).bind fun bt342 => ((spec_CountStates.f k t323).bind fun bt346 => (if t316 = t320 then ((laws_f6ints.f k t315 t319).bind fun t350 => (if t350 = true then (if t328 = bt330.2.2 then (if (!(t326 == bt330.1) || (!(t327 == bt330.2.1))) = true then (laws_FnCopiesUsed.j0 k t309 t310 t316 t319 t323 t328 bt338.1 bt342.2 bt346.1 true bt330.1 bt330.2.1) else (if bt334.2 = bt338.2 then ((laws_f6ints.f k bt334.1 bt338.1).bind fun t351 => (if t351 = true then (if bt342.2 = bt346.2 then ((laws_f6ints.f k bt342.1 bt346.1).bind fun t352 => (laws_FnCopiesUsed.j0 k t309 t310 t316 t319 t323 t328 bt338.1 bt342.2 bt346.1 (!t352) bt330.1 bt330.2.1)) else (laws_FnCopiesUsed.j0 k t309 t310 t316 t319 t323 t328 bt338.1 bt342.2 bt346.1 true bt330.1 bt330.2.1)) else (laws_FnCopiesUsed.j0 k t309 t310 t316 t319 t323 t328 bt338.1 bt342.2 bt346.1 true bt330.1 bt330.2.1))) else (laws_FnCopiesUsed.j0 k t309 t310 t316 t319 t323 t328 bt338.1 bt342.2 bt346.1 true bt330.1 bt330.2.1))) else (laws_FnCopiesUsed.j0 k t309 t310 t316 t319 t323 t328 bt338.1 bt342.2 bt346.1 true bt330.1 bt330.2.1)) else (laws_FnCopiesUsed.j0 k t309 t310 t316 t319 t323 t328 bt338.1 bt342.2 bt346.1 true bt330.1 bt330.2.1))) else (laws_FnCopiesUsed.j0 k t309 t310 t316 t319 t323 t328 bt338.1 bt342.2 bt346.1 true bt330.1 bt330.2.1))))))) = some r := H
    have A8 := Aside0.mk A80
    clear A80
    replace H := Option.bind_eq_some_iff.mp H
    obtain ⟨⟨t330, t331, t332⟩, A90, H⟩ := H
    replace H : ((impl_NotOriginal.f k t323).bind fun bt334 => ((spec_NotOriginal.f k t323).bind fun bt338 => ((impl_CountStates.f k t323).bind fun bt342 => ((spec_CountStates.f k t323).bind fun bt346 => (if t316 = t320 then ((laws_f6ints.f k t315 t319).bind fun t350 => (if t350 = true then (if t328 = t332 then (if (!(t326 == t330) || (!(t327 == t331))) = true then (laws_FnCopiesUsed.j0 k t309 t310 t316 t319 t323 t328 bt338.1 bt342.2 bt346.1 true t330 t331) else (if bt334.2 = bt338.2 then ((laws_f6ints.f k bt334.1 bt338.1).bind fun t351 => (if t351 = true then (if bt342.2 = bt346.2 then ((laws_f6ints.f k bt342.1 bt346.1).bind fun t352 => (laws_FnCopiesUsed.j0 k t309 t310 t316 t319 t323 t328 bt338.1 bt342.2 bt346.1 (!t352) t330 t331)) else (laws_FnCopiesUsed.j0 k t309 t310 t316 t319 t323 t328 bt338.1 bt342.2 bt346.1 true t330 t331)) else (laws_FnCopiesUsed.j0 k t309 t310 t316 t319 t323 t328 bt338.1 bt342.2 bt346.1 true t330 t331))) else (laws_FnCopiesUsed.j0 k t309 t310 t316 t319 t323 t328 bt338.1 bt342.2 bt346.1 true t330 t331))) else (laws_FnCopiesUsed.j0 k t309 t310 t316 t319 t323 t328 bt338.1 bt342.2 bt346.1 true t330 t331)) else (laws_FnCopiesUsed.j0 k t309 t310 t316 t319 t323 t328 bt338.1 bt342.2 bt346.1 true t330 t331))) else (laws_FnCopiesUsed.j0 k t309 t310 t316 t319 t323 t328 bt338.1 bt342.2 bt346.1 true t330 t331)))))) = some r := H
    have A9 := Aside0.mk A90
    clear A90
    replace H := Option.bind_eq_some_iff.mp H
    obtain ⟨⟨t334, t335⟩, A100, H⟩ := H
    replace H : ((spec_NotOriginal.f k t323).bind fun bt338 => ((impl_CountStates.f k t323).bind fun bt342 => ((spec_CountStates.f k t323).bind fun bt346 => (if t316 = t320 then ((laws_f6ints.f k t315 t319).bind fun t350 => (if t350 = true then (if t328 = t332 then (if (!(t326 == t330) || (!(t327 == t331))) = true then (laws_FnCopiesUsed.j0 k t309 t310 t316 t319 t323 t328 bt338.1 bt342.2 bt346.1 true t330 t331) else (if t335 = bt338.2 then ((laws_f6ints.f k t334 bt338.1).bind fun t351 => (if t351 = true then (if bt342.2 = bt346.2 then ((laws_f6ints.f k bt342.1 bt346.1).bind fun t352 => (laws_FnCopiesUsed.j0 k t309 t310 t316 t319 t323 t328 bt338.1 bt342.2 bt346.1 (!t352) t330 t331)) else (laws_FnCopiesUsed.j0 k t309 t310 t316 t319 t323 t328 bt338.1 bt342.2 bt346.1 true t330 t331)) else (laws_FnCopiesUsed.j0 k t309 t310 t316 t319 t323 t328 bt338.1 bt342.2 bt346.1 true t330 t331))) else (laws_FnCopiesUsed.j0 k t309 t310 t316 t319 t323 t328 bt338.1 bt342.2 bt346.1 true t330 t331))) else (laws_FnCopiesUsed.j0 k t309 t310 t316 t319 t323 t328 bt338.1 bt342.2 bt346.1 true t330 t331)) else (laws_FnCopiesUsed.j0 k t309 t310 t316 t319 t323 t328 bt338.1 bt342.2 bt346.1 true t330 t331))) else (laws_FnCopiesUsed.j0 k t309 t310 t316 t319 t323 t328 bt338.1 bt342.2 bt346.1 true t330 t331))))) = some r := H
    have A10 := Aside0.mk A100
    clear A100
    replace H := Option.bind_eq_some_iff.mp H
    obtain ⟨⟨t338, t339⟩, A110, H⟩ := H
    replace H : ((impl_CountStates.f k t323).bind fun bt342 => ((spec_CountStates.f k t323).bind fun bt346 => (if t316 = t320 then ((laws_f6ints.f k t315 t319).bind fun t350 => (if t350 = true then (if t328 = t332 then (if (!(t326 == t330) || (!(t327 == t331))) = true then (laws_FnCopiesUsed.j0 k t309 t310 t316 t319 t323 t328 t338 bt342.2 bt346.1 true t330 t331) else (if t335 = t339 then ((laws_f6ints.f k t334 t338).bind fun t351 => (if t351 = true then (if bt342.2 = bt346.2 then ((laws_f6ints.f k bt342.1 bt346.1).bind fun t352 => (laws_FnCopiesUsed.j0 k t309 t310 t316 t319 t323 t328 t338 bt342.2 bt346.1 (!t352) t330 t331)) else (laws_FnCopiesUsed.j0 k t309 t310 t316 t319 t323 t328 t338 bt342.2 bt346.1 true t330 t331)) else (laws_FnCopiesUsed.j0 k t309 t310 t316 t319 t323 t328 t338 bt342.2 bt346.1 true t330 t331))) else (laws_FnCopiesUsed.j0 k t309 t310 t316 t319 t323 t328 t338 bt342.2 bt346.1 true t330 t331))) else (laws_FnCopiesUsed.j0 k t309 t310 t316 t319 t323 t328 t338 bt342.2 bt346.1 true t330 t331)) else (laws_FnCopiesUsed.j0 k t309 t310 t316 t319 t323 t328 t338 bt342.2 bt346.1 true t330 t331))) else (laws_FnCopiesUsed.j0 k t309 t310 t316 t319 t323 t328 t338 bt342.2 bt346.1 true t330 t331)))) = some r := H
    have A11 := Aside0.mk A110
    clear A110
    replace H := Option.bind_eq_some_iff.mp H
    obtain ⟨⟨t342, t343⟩, A120, H⟩ := H
    replace H : ((spec_CountStates.f k t323).bind fun bt346 => (if t316 = t320 then ((laws_f6ints.f k t315 t319).bind fun t350 => (if t350 = true then (if t328 = t332 then (if (!(t326 == t330) || (!(t327 == t331))) = true then (laws_FnCopiesUsed.j0 k t309 t310 t316 t319 t323 t328 t338 t343 bt346.1 true t330 t331) else (if t335 = t339 then ((laws_f6ints.f k t334 t338).bind fun t351 => (if t351 = true then (if t343 = bt346.2 then ((laws_f6ints.f k t342 bt346.1).bind fun t352 => (laws_FnCopiesUsed.j0 k t309 t310 t316 t319 t323 t328 t338 t343 bt346.1 (!t352) t330 t331)) else (laws_FnCopiesUsed.j0 k t309 t310 t316 t319 t323 t328 t338 t343 bt346.1 true t330 t331)) else (laws_FnCopiesUsed.j0 k t309 t310 t316 t319 t323 t328 t338 t343 bt346.1 true t330 t331))) else (laws_FnCopiesUsed.j0 k t309 t310 t316 t319 t323 t328 t338 t343 bt346.1 true t330 t331))) else (laws_FnCopiesUsed.j0 k t309 t310 t316 t319 t323 t328 t338 t343 bt346.1 true t330 t331)) else (laws_FnCopiesUsed.j0 k t309 t310 t316 t319 t323 t328 t338 t343 bt346.1 true t330 t331))) else (laws_FnCopiesUsed.j0 k t309 t310 t316 t319 t323 t328 t338 t343 bt346.1 true t330 t331))) = some r := H
    have A12 := Aside0.mk A120
    clear A120
    replace H := Option.bind_eq_some_iff.mp H
    obtain ⟨⟨t346, t347⟩, A130, H⟩ := H
    replace H : (if t316 = t320 then ((laws_f6ints.f k t315 t319).bind fun t350 => (if t350 = true then (if t328 = t332 then (if (!(t326 == t330) || (!(t327 == t331))) = true then (laws_FnCopiesUsed.j0 k t309 t310 t316 t319 t323 t328 t338 t343 t346 true t330 t331) else (if t335 = t339 then ((laws_f6ints.f k t334 t338).bind fun t351 => (if t351 = true then (if t343 = t347 then ((laws_f6ints.f k t342 t346).bind fun t352 => (laws_FnCopiesUsed.j0 k t309 t310 t316 t319 t323 t328 t338 t343 t346 (!t352) t330 t331)) else (laws_FnCopiesUsed.j0 k t309 t310 t316 t319 t323 t328 t338 t343 t346 true t330 t331)) else (laws_FnCopiesUsed.j0 k t309 t310 t316 t319 t323 t328 t338 t343 t346 true t330 t331))) else (laws_FnCopiesUsed.j0 k t309 t310 t316 t319 t323 t328 t338 t343 t346 true t330 t331))) else (laws_FnCopiesUsed.j0 k t309 t310 t316 t319 t323 t328 t338 t343 t346 true t330 t331)) else (laws_FnCopiesUsed.j0 k t309 t310 t316 t319 t323 t328 t338 t343 t346 true t330 t331))) else (laws_FnCopiesUsed.j0 k t309 t310 t316 t319 t323 t328 t338 t343 t346 true t330 t331)) = some r := H
    have A13 := Aside0.mk A130
    clear A130
    have HC14 := Aside0.mk H
    clear H
    go_enter Try.func13, Try.ntmps13
    go_upto_region 13 with (first | ((with_reducible refine gate_callee (f := 49) rfl ?_); refine goesL_ (some 27) rfl rfl Try.func49 (by kernel_rfl) rfl #[.slice A0 l0.length c0] rfl (by (try simp only [List.map_toArray, List.map_cons, List.map_nil]); first | done | rfl | (simp only [List.length_drop, List.length_take]; rfl)) ?_; (with_reducible refine (laws_f6big.calls _ _ l0 false _ ?side1 ?side2 A2.out).mono ?_); (case side1 => repeat (first | exact HR0.out | (with_reducible refine Kd.C_alloc ?_ _) | (with_reducible refine Kd.C_drewN ?_ _) | (with_reducible refine Kd.C_drew ?_))); (case side2 => exact HC0.out); rintro e w' ⟨rfl, ⟨nd, rfl⟩⟩; refine ⟨_, rfl, ?_⟩) | ((with_reducible refine gate_callee (f := 50) rfl ?_); refine goesL_ (some 30) rfl rfl Try.func50 (by kernel_rfl) rfl #[.slice A0 l0.length c0] rfl (by (try simp only [List.map_toArray, List.map_cons, List.map_nil]); first | done | rfl | (simp only [List.length_drop, List.length_take]; rfl)) ?_; (with_reducible refine (spec_DrawFewestCopies.calls k _ _ l0 t309 t310 _ ?side1 ?side2 A4.out).mono ?_); (case side1 => repeat (first | exact HR0.out | (with_reducible refine Kd.C_alloc ?_ _) | (with_reducible refine Kd.C_drewN ?_ _) | (with_reducible refine Kd.C_drew ?_))); (case side2 => exact HC0.out); rintro e w15 ⟨v311, v313, rfl, ho0, ho1, hb⟩; refine ⟨_, rfl, ?_⟩; have n0_ := Aside0.mk (Kd.R_lower ho0 (below_size (by repeat (first | (with_reducible first | exact HB.out | apply below_alloc | apply pw_below_drewN | apply below_drew1) | exact HB.out)))); have n1_ := Aside0.mk (Kd.S_lower ho1 (below_size (by repeat (first | (with_reducible first | exact HB.out | apply below_alloc | apply pw_below_drewN | apply below_drew1) | exact HB.out)))); have n2_ := Aside0.mk (below_step (by repeat (first | (with_reducible first | exact HB.out | apply below_alloc | apply pw_below_drewN | apply below_drew1) | exact HB.out)) hb); clear HB; have HO312 := n0_; have HO314 := n1_; have HB := n2_; clear n0_ n1_ n2_; (try clear hb); (try clear hb2); (try clear hk); (try clear hi); (try clear ho0); (try clear ho1); obtain ⟨Ao16, co16, eo16⟩ := Kd.R_slice HO312.out; subst eo16; obtain ⟨Ao17, co17, eo17⟩ := Kd.S_slice HO314.out; subst eo17) | ((with_reducible refine gate_callee (f := 48) rfl ?_); refine goesL_ (some 36) rfl rfl Try.func48 (by kernel_rfl) rfl #[.slice Ao16 t309.length co16, .slice Ao17 t310.length co17] rfl (by (try simp only [List.map_toArray, List.map_cons, List.map_nil]); first | done | rfl | (simp only [List.length_drop, List.length_take]; rfl)) ?_; (with_reducible refine (impl_FewestCopies.calls k _ _ t309 _ _ t310 t315 t316 _ ?side1 ?side2 ?side3 ?side4 A5.out).mono ?_); (case side1 => repeat (first | exact (Kd.R_reads' HO312.out).2.2 | (with_reducible refine Kd.C_alloc ?_ _) | (with_reducible refine Kd.C_drewN ?_ _) | (with_reducible refine Kd.C_drew ?_))); (case side2 => exact (Kd.R_reads' HO312.out).2.1); (case side3 => repeat (first | exact (Kd.S_reads' HO314.out).2.2 | (with_reducible refine Kd.C_alloc ?_ _) | (with_reducible refine Kd.C_drewN ?_ _) | (with_reducible refine Kd.C_drew ?_))); (case side4 => exact (Kd.S_reads' HO314.out).2.1); rintro e w18 ⟨v317, rfl, ho0, hb⟩; refine ⟨_, rfl, ?_⟩; have n0_ := Aside0.mk (Kd.R_elder' (by (with_reducible repeat (first | apply Kd.R_alloc | apply Kd.R_drewN | apply Kd.R_drew)); exact HO312.out) (Kd.R_base ho0) hb); have n1_ := Aside0.mk (Kd.S_elder' (by (with_reducible repeat (first | apply Kd.S_alloc | apply Kd.S_drewN | apply Kd.S_drew)); exact HO314.out) (Kd.R_base ho0) hb); have n2_ := Aside0.mk (Kd.R_lower (Kd.R_new' ho0 (Kd.R_lt (by (with_reducible repeat (first | apply Kd.R_alloc | apply Kd.R_drewN | apply Kd.R_drew)); exact HO312.out))) (below_size (by repeat (first | (with_reducible first | exact HB.out | apply below_alloc | apply pw_below_drewN | apply below_drew1) | exact HB.out)))); have n3_ := Aside0.mk (below_step (by repeat (first | (with_reducible first | exact HB.out | apply below_alloc | apply pw_below_drewN | apply below_drew1) | exact HB.out)) hb); clear HO312; clear HO314; clear HB; have HO312 := n0_; have HO314 := n1_; have HO318 := n2_; have HB := n3_; clear n0_ n1_ n2_ n3_; (try clear hb); (try clear hb2); (try clear hk); (try clear hi); (try clear ho0)) | ((with_reducible refine gate_callee (f := 47) rfl ?_); refine goesL_ (some 42) rfl rfl Try.func47 (by kernel_rfl) rfl #[.slice Ao16 t309.length co16, .slice Ao17 t310.length co17] rfl (by (try simp only [List.map_toArray, List.map_cons, List.map_nil]); first | done | rfl | (simp only [List.length_drop, List.length_take]; rfl)) ?_; (with_reducible refine (spec_FewestCopies.calls k _ _ t309 _ _ t310 t319 t320 _ ?side1 ?side2 ?side3 ?side4 A6.out).mono ?_); (case side1 => repeat (first | exact (Kd.R_reads' HO312.out).2.2 | (with_reducible refine Kd.C_alloc ?_ _) | (with_reducible refine Kd.C_drewN ?_ _) | (with_reducible refine Kd.C_drew ?_))); (case side2 => exact (Kd.R_reads' HO312.out).2.1); (case side3 => repeat (first | exact (Kd.S_reads' HO314.out).2.2 | (with_reducible refine Kd.C_alloc ?_ _) | (with_reducible refine Kd.C_drewN ?_ _) | (with_reducible refine Kd.C_drew ?_))); (case side4 => exact (Kd.S_reads' HO314.out).2.1); rintro e w19 ⟨v321, rfl, ho0, hb⟩; refine ⟨_, rfl, ?_⟩; have n0_ := Aside0.mk (Kd.R_elder' (by (with_reducible repeat (first | apply Kd.R_alloc | apply Kd.R_drewN | apply Kd.R_drew)); exact HO312.out) (Kd.R_base ho0) hb); have n1_ := Aside0.mk (Kd.S_elder' (by (with_reducible repeat (first | apply Kd.S_alloc | apply Kd.S_drewN | apply Kd.S_drew)); exact HO314.out) (Kd.R_base ho0) hb); have n2_ := Aside0.mk (Kd.R_elder' (by (with_reducible repeat (first | apply Kd.R_alloc | apply Kd.R_drewN | apply Kd.R_drew)); exact HO318.out) (Kd.R_base ho0) hb); have n3_ := Aside0.mk (Kd.R_lower (Kd.R_new' (Kd.R_new' ho0 (Kd.R_lt (by (with_reducible repeat (first | apply Kd.R_alloc | apply Kd.R_drewN | apply Kd.R_drew)); exact HO312.out))) (Kd.R_lt (by (with_reducible repeat (first | apply Kd.R_alloc | apply Kd.R_drewN | apply Kd.R_drew)); exact HO318.out))) (below_size (by repeat (first | (with_reducible first | exact HB.out | apply below_alloc | apply pw_below_drewN | apply below_drew1) | exact HB.out)))); have n4_ := Aside0.mk (below_step (by repeat (first | (with_reducible first | exact HB.out | apply below_alloc | apply pw_below_drewN | apply below_drew1) | exact HB.out)) hb); clear HO312; clear HO314; clear HO318; clear HB; have HO312 := n0_; have HO314 := n1_; have HO318 := n2_; have HO322 := n3_; have HB := n4_; clear n0_ n1_ n2_ n3_ n4_; (try clear hb); (try clear hb2); (try clear hk); (try clear hi); (try clear ho0)) | ((with_reducible refine gate_callee (f := 51) rfl ?_); refine goesL_ (some 46) rfl rfl Try.func51 (by kernel_rfl) rfl #[.slice A0 l0.length c0] rfl (by (try simp only [List.map_toArray, List.map_cons, List.map_nil]); first | done | rfl | (simp only [List.length_drop, List.length_take]; rfl)) ?_; (with_reducible refine (spec_DrawShareNotOriginal.calls k _ _ l0 t323 _ ?side1 ?side2 A7.out).mono ?_); (case side1 => repeat (first | exact (Kd.C_below HR0.out HB.out) | (with_reducible refine Kd.C_alloc ?_ _) | (with_reducible refine Kd.C_drewN ?_ _) | (with_reducible refine Kd.C_drew ?_))); (case side2 => exact HC0.out); rintro e w20 ⟨v324, rfl, ho0, hb⟩; refine ⟨_, rfl, ?_⟩; have n0_ := Aside0.mk (Kd.R_elder' (by (with_reducible repeat (first | apply Kd.R_alloc | apply Kd.R_drewN | apply Kd.R_drew)); exact HO312.out) (Kd.R_base ho0) hb); have n1_ := Aside0.mk (Kd.S_elder' (by (with_reducible repeat (first | apply Kd.S_alloc | apply Kd.S_drewN | apply Kd.S_drew)); exact HO314.out) (Kd.R_base ho0) hb); have n2_ := Aside0.mk (Kd.R_elder' (by (with_reducible repeat (first | apply Kd.R_alloc | apply Kd.R_drewN | apply Kd.R_drew)); exact HO318.out) (Kd.R_base ho0) hb); have n3_ := Aside0.mk (Kd.R_elder' (by (with_reducible repeat (first | apply Kd.R_alloc | apply Kd.R_drewN | apply Kd.R_drew)); exact HO322.out) (Kd.R_base ho0) hb); have n4_ := Aside0.mk (Kd.R_lower (Kd.R_new' (Kd.R_new' (Kd.R_new' ho0 (Kd.R_lt (by (with_reducible repeat (first | apply Kd.R_alloc | apply Kd.R_drewN | apply Kd.R_drew)); exact HO312.out))) (Kd.R_lt (by (with_reducible repeat (first | apply Kd.R_alloc | apply Kd.R_drewN | apply Kd.R_drew)); exact HO318.out))) (Kd.R_lt (by (with_reducible repeat (first | apply Kd.R_alloc | apply Kd.R_drewN | apply Kd.R_drew)); exact HO322.out))) (below_size (by repeat (first | (with_reducible first | exact HB.out | apply below_alloc | apply pw_below_drewN | apply below_drew1) | exact HB.out)))); have n5_ := Aside0.mk (below_step (by repeat (first | (with_reducible first | exact HB.out | apply below_alloc | apply pw_below_drewN | apply below_drew1) | exact HB.out)) hb); clear HO312; clear HO314; clear HO318; clear HO322; clear HB; have HO312 := n0_; have HO314 := n1_; have HO318 := n2_; have HO322 := n3_; have HO325 := n4_; have HB := n5_; clear n0_ n1_ n2_ n3_ n4_ n5_; (try clear hb); (try clear hb2); (try clear hk); (try clear hi); (try clear ho0); obtain ⟨Ao21, co21, eo21⟩ := Kd.R_slice HO325.out; subst eo21) | ((with_reducible refine gate_callee (f := 30) rfl ?_); refine goesL_ (some 49) rfl rfl Try.func30 (by kernel_rfl) rfl #[.slice Ao21 t323.length co21] rfl (by (try simp only [List.map_toArray, List.map_cons, List.map_nil]); first | done | rfl | (simp only [List.length_drop, List.length_take]; rfl)) ?_; (with_reducible refine (impl_ShareNotOriginal.calls k _ _ t323 t326 t327 t328 _ ?side1 ?side2 A8.out).mono ?_); (case side1 => repeat (first | exact (Kd.R_reads' HO325.out).2.2 | (with_reducible refine Kd.C_alloc ?_ _) | (with_reducible refine Kd.C_drewN ?_ _) | (with_reducible refine Kd.C_drew ?_))); (case side2 => exact (Kd.R_reads' HO325.out).2.1); rintro e w22 ⟨rfl, hb⟩; refine ⟨_, rfl, ?_⟩; have n0_ := Aside0.mk (Kd.R_below (by (with_reducible repeat (first | apply Kd.R_alloc | apply Kd.R_drewN | apply Kd.R_drew)); exact HO312.out) hb); have n1_ := Aside0.mk (Kd.S_below (by (with_reducible repeat (first | apply Kd.S_alloc | apply Kd.S_drewN | apply Kd.S_drew)); exact HO314.out) hb); have n2_ := Aside0.mk (Kd.R_below (by (with_reducible repeat (first | apply Kd.R_alloc | apply Kd.R_drewN | apply Kd.R_drew)); exact HO318.out) hb); have n3_ := Aside0.mk (Kd.R_below (by (with_reducible repeat (first | apply Kd.R_alloc | apply Kd.R_drewN | apply Kd.R_drew)); exact HO322.out) hb); have n4_ := Aside0.mk (Kd.R_below (by (with_reducible repeat (first | apply Kd.R_alloc | apply Kd.R_drewN | apply Kd.R_drew)); exact HO325.out) hb); have n5_ := Aside0.mk (below_step (by repeat (first | (with_reducible first | exact HB.out | apply below_alloc | apply pw_below_drewN | apply below_drew1) | exact HB.out)) hb); clear HO312; clear HO314; clear HO318; clear HO322; clear HO325; clear HB; have HO312 := n0_; have HO314 := n1_; have HO318 := n2_; have HO322 := n3_; have HO325 := n4_; have HB := n5_; clear n0_ n1_ n2_ n3_ n4_ n5_; (try clear hb); (try clear hb2); (try clear hk); (try clear hi)) | ((with_reducible refine gate_dst (N := 10) rfl ?_); (try (refine gate_guard (by rfl) ?_; dsimp only)); refine box_event ?hg (N := 10) ?hd (cs := #[.int .i64 0, .int .i64 0]) (t := 34) ?hr ?_; (case hd => rfl); (case hg => rfl); (case hr => first | (go_simp; done) | (go_simp; rfl)); intro gb329 hg w23 hbox hb; have n0_ := Aside0.mk (Kd.R_below (by (with_reducible repeat (first | apply Kd.R_alloc | apply Kd.R_drewN | apply Kd.R_drew)); exact HO312.out) hb); have n1_ := Aside0.mk (Kd.S_below (by (with_reducible repeat (first | apply Kd.S_alloc | apply Kd.S_drewN | apply Kd.S_drew)); exact HO314.out) hb); have n2_ := Aside0.mk (Kd.R_below (by (with_reducible repeat (first | apply Kd.R_alloc | apply Kd.R_drewN | apply Kd.R_drew)); exact HO318.out) hb); have n3_ := Aside0.mk (Kd.R_below (by (with_reducible repeat (first | apply Kd.R_alloc | apply Kd.R_drewN | apply Kd.R_drew)); exact HO322.out) hb); have n4_ := Aside0.mk (Kd.R_below (by (with_reducible repeat (first | apply Kd.R_alloc | apply Kd.R_drewN | apply Kd.R_drew)); exact HO325.out) hb); have n5_ := Aside0.mk (below_step (by repeat (first | (with_reducible first | exact HB.out | apply below_alloc | apply pw_below_drewN | apply below_drew1) | exact HB.out)) hb); have n6_ := Aside0.mk (hbox); have n7_ := Aside0.mk ((by rw [hg]; exact (below_size (by repeat (first | (with_reducible first | exact HB.out | apply below_alloc | apply pw_below_drewN | apply below_drew1) | exact HB.out))) : w.heap.size ≤ gb329)); have n8_ := Aside0.mk ((by rw [hg]; exact (below_size (by repeat (first | (with_reducible first | exact HB.out | apply below_alloc | apply pw_below_drewN | apply below_drew1) | exact HB.out))) : w.heap.size ≤ gb329)); clear HO312; clear HO314; clear HO318; clear HO322; clear HO325; clear HB; have HO312 := n0_; have HO314 := n1_; have HO318 := n2_; have HO322 := n3_; have HO325 := n4_; have HB := n5_; have BK329 := n6_; have GW329 := n7_; have GE329 := n8_; clear n0_ n1_ n2_ n3_ n4_ n5_ n6_ n7_ n8_; clear hb hbox hg; have hcz24_0 : w23.cell? ⟨gb329, 0, none⟩ = some (.int .i64 0) := (blk_cell BK329.out 0).trans rfl; have hcz24_1 : w23.cell? ⟨gb329, 1, none⟩ = some (.int .i64 0) := (blk_cell BK329.out 1).trans rfl; have hfz24_0 := blk_frozen BK329.out 0; have hfz24_1 := blk_frozen BK329.out 1) | ((with_reducible refine gate_callee (f := 29) rfl ?_); refine goesL_ (some 54) rfl rfl Try.func29 (by kernel_rfl) rfl #[.slice Ao21 t323.length co21] rfl (by (try simp only [List.map_toArray, List.map_cons, List.map_nil]); first | done | rfl | (simp only [List.length_drop, List.length_take]; rfl)) ?_; (with_reducible refine (spec_ShareNotOriginal.calls k _ _ t323 t330 t331 t332 _ ?side1 ?side2 A9.out).mono ?_); (case side1 => refine (Kd.R_reads' (e := 2) (base := w.heap.size) (ok := fun k_ => (((True ∧ some k_ ≠ (.slice Ao16 t309.length co16 : Value).ownBlock) ∧ some k_ ≠ (v317 : Value).ownBlock) ∧ some k_ ≠ (v321 : Value).ownBlock)) (n := t323.length) (c := co21) ?_).2.2; exact (by (with_reducible repeat (first | apply Kd.R_alloc | apply Kd.R_drewN | apply Kd.R_drew)); exact (Kd.R_mono (Kd.R_far (p := ⟨gb329, 1, none⟩) (Kd.R_far (p := ⟨gb329, 0, none⟩) (Kd.R_types HO325.out BK329.out (by decide)) (fun _ hk => hk.2) (.int .i64 t326)) (fun _ hk => hk.2) (.int .i64 t327)) (fun _ h_ => h_.1)))); (case side2 => exact (Kd.R_reads' HO325.out).2.1); rintro e w25 ⟨rfl, hb⟩; refine ⟨_, rfl, ?_⟩; have n0_ := Aside0.mk (Kd.R_below (by (with_reducible repeat (first | apply Kd.R_alloc | apply Kd.R_drewN | apply Kd.R_drew)); exact (Kd.R_mono (Kd.R_far (p := ⟨gb329, 1, none⟩) (Kd.R_far (p := ⟨gb329, 0, none⟩) (Kd.R_types HO312.out BK329.out (by decide)) (fun _ hk => hk.2) (.int .i64 t326)) (fun _ hk => hk.2) (.int .i64 t327)) (fun _ h_ => h_.1))) hb); have n1_ := Aside0.mk (Kd.S_below (by (with_reducible repeat (first | apply Kd.S_alloc | apply Kd.S_drewN | apply Kd.S_drew)); exact (Kd.S_mono (Kd.S_far (p := ⟨gb329, 1, none⟩) (Kd.S_far (p := ⟨gb329, 0, none⟩) (Kd.S_types HO314.out BK329.out (by decide)) (fun _ hk => hk.2) (.int .i64 t326)) (fun _ hk => hk.2) (.int .i64 t327)) (fun _ h_ => h_.1))) hb); have n2_ := Aside0.mk (Kd.R_below (by (with_reducible repeat (first | apply Kd.R_alloc | apply Kd.R_drewN | apply Kd.R_drew)); exact (Kd.R_mono (Kd.R_far (p := ⟨gb329, 1, none⟩) (Kd.R_far (p := ⟨gb329, 0, none⟩) (Kd.R_types HO318.out BK329.out (by decide)) (fun _ hk => hk.2) (.int .i64 t326)) (fun _ hk => hk.2) (.int .i64 t327)) (fun _ h_ => h_.1))) hb); have n3_ := Aside0.mk (Kd.R_below (by (with_reducible repeat (first | apply Kd.R_alloc | apply Kd.R_drewN | apply Kd.R_drew)); exact (Kd.R_mono (Kd.R_far (p := ⟨gb329, 1, none⟩) (Kd.R_far (p := ⟨gb329, 0, none⟩) (Kd.R_types HO322.out BK329.out (by decide)) (fun _ hk => hk.2) (.int .i64 t326)) (fun _ hk => hk.2) (.int .i64 t327)) (fun _ h_ => h_.1))) hb); have n4_ := Aside0.mk (Kd.R_below (by (with_reducible repeat (first | apply Kd.R_alloc | apply Kd.R_drewN | apply Kd.R_drew)); exact (Kd.R_mono (Kd.R_far (p := ⟨gb329, 1, none⟩) (Kd.R_far (p := ⟨gb329, 0, none⟩) (Kd.R_types HO325.out BK329.out (by decide)) (fun _ hk => hk.2) (.int .i64 t326)) (fun _ hk => hk.2) (.int .i64 t327)) (fun _ h_ => h_.1))) hb); have n5_ := Aside0.mk (blk_below (g := gb329) (o := .cells #[.int .i64 t326, .int .i64 t327] 34 (0, 0)) (by (with_reducible repeat (first | refine blk_drewN ?_ _ | refine blk_drew ?_ | refine blk_alloc ?_ _)); refine blk_put (cs := #[.int .i64 t326, .int .i64 0]) ?_ 1 _ rfl; (with_reducible repeat (first | refine blk_drewN ?_ _ | refine blk_drew ?_ | refine blk_alloc ?_ _)); refine blk_put (cs := #[.int .i64 0, .int .i64 0]) ?_ 0 _ rfl; (with_reducible repeat (first | refine blk_drewN ?_ _ | refine blk_drew ?_ | refine blk_alloc ?_ _)); exact BK329.out) hb); have n6_ := Aside0.mk (below_step (by repeat (first | (with_reducible first | exact HB.out | apply below_alloc | apply pw_below_drewN | apply below_drew1 | refine below_set ?_ GE329.out) | exact HB.out)) hb); clear HO312; clear HO314; clear HO318; clear HO322; clear HO325; clear BK329; clear HB; have HO312 := n0_; have HO314 := n1_; have HO318 := n2_; have HO322 := n3_; have HO325 := n4_; have BK329 := n5_; have HB := n6_; clear n0_ n1_ n2_ n3_ n4_ n5_ n6_; (try clear hb); (try clear hb2); (try clear hk); (try clear hi)) | ((with_reducible refine gate_dst (N := 12) rfl ?_); (try (refine gate_guard (by rfl) ?_; dsimp only)); refine box_event ?hg (N := 12) ?hd (cs := #[.int .i64 0, .int .i64 0]) (t := 34) ?hr ?_; (case hd => rfl); (case hg => rfl); (case hr => first | (go_simp; done) | (go_simp; rfl)); intro gb333 hg w26 hbox hb; have n0_ := Aside0.mk (Kd.R_below (by (with_reducible repeat (first | apply Kd.R_alloc | apply Kd.R_drewN | apply Kd.R_drew)); exact HO312.out) hb); have n1_ := Aside0.mk (Kd.S_below (by (with_reducible repeat (first | apply Kd.S_alloc | apply Kd.S_drewN | apply Kd.S_drew)); exact HO314.out) hb); have n2_ := Aside0.mk (Kd.R_below (by (with_reducible repeat (first | apply Kd.R_alloc | apply Kd.R_drewN | apply Kd.R_drew)); exact HO318.out) hb); have n3_ := Aside0.mk (Kd.R_below (by (with_reducible repeat (first | apply Kd.R_alloc | apply Kd.R_drewN | apply Kd.R_drew)); exact HO322.out) hb); have n4_ := Aside0.mk (Kd.R_below (by (with_reducible repeat (first | apply Kd.R_alloc | apply Kd.R_drewN | apply Kd.R_drew)); exact HO325.out) hb); have n5_ := Aside0.mk (blk_below (g := gb329) (o := .cells #[.int .i64 t326, .int .i64 t327] 34 (0, 0)) (by (with_reducible repeat (first | refine blk_drewN ?_ _ | refine blk_drew ?_ | refine blk_alloc ?_ _)); exact BK329.out) hb); have n6_ := Aside0.mk (below_step (by repeat (first | (with_reducible first | exact HB.out | apply below_alloc | apply pw_below_drewN | apply below_drew1 | refine below_set ?_ GE329.out) | exact HB.out)) hb); have n7_ := Aside0.mk (hbox); have n8_ := Aside0.mk ((by rw [hg]; exact (below_size (by repeat (first | (with_reducible first | exact HB.out | apply below_alloc | apply pw_below_drewN | apply below_drew1 | refine below_set ?_ GE329.out) | exact HB.out))) : w.heap.size ≤ gb333)); have n9_ := Aside0.mk ((by rw [hg]; exact (below_size (by repeat (first | (with_reducible first | exact HB.out | apply below_alloc | apply pw_below_drewN | apply below_drew1 | refine below_set ?_ GE329.out) | exact HB.out))) : w.heap.size ≤ gb333)); have n10_ := Aside0.mk ((by rw [hg]; exact Nat.ne_of_lt (blk_lt (g := gb329) (o := .cells #[.int .i64 t326, .int .i64 t327] 34 (0, 0)) (by (with_reducible repeat (first | refine blk_drewN ?_ _ | refine blk_drew ?_ | refine blk_alloc ?_ _)); exact BK329.out)) : gb329 ≠ gb333)); have n11_ := Aside0.mk ((by rw [hg]; exact Nat.ne_of_gt (blk_lt (g := gb329) (o := .cells #[.int .i64 t326, .int .i64 t327] 34 (0, 0)) (by (with_reducible repeat (first | refine blk_drewN ?_ _ | refine blk_drew ?_ | refine blk_alloc ?_ _)); exact BK329.out)) : gb333 ≠ gb329)); clear HO312; clear HO314; clear HO318; clear HO322; clear HO325; clear BK329; clear HB; have HO312 := n0_; have HO314 := n1_; have HO318 := n2_; have HO322 := n3_; have HO325 := n4_; have BK329 := n5_; have HB := n6_; have BK333 := n7_; have GW333 := n8_; have GE333 := n9_; have NB329_333 := n10_; have NB333_329 := n11_; clear n0_ n1_ n2_ n3_ n4_ n5_ n6_ n7_ n8_ n9_ n10_ n11_; clear hb hbox hg; have hnb27 := NB333_329.out; have hnc27 := NB329_333.out; have hcz28_0 : w26.cell? ⟨gb333, 0, none⟩ = some (.int .i64 0) := (blk_cell BK333.out 0).trans rfl; have hcz28_1 : w26.cell? ⟨gb333, 1, none⟩ = some (.int .i64 0) := (blk_cell BK333.out 1).trans rfl; have hfz28_0 := blk_frozen BK333.out 0; have hfz28_1 := blk_frozen BK333.out 1) | ((with_reducible refine gate_callee (f := 26) rfl ?_); refine goesL_ (some 59) rfl rfl Try.func26 (by kernel_rfl) rfl #[.slice Ao21 t323.length co21] rfl (by (try simp only [List.map_toArray, List.map_cons, List.map_nil]); first | done | rfl | (simp only [List.length_drop, List.length_take]; rfl)) ?_; (with_reducible refine (impl_NotOriginal.calls k _ _ t323 t334 t335 _ ?side1 ?side2 A10.out).mono ?_); (case side1 => refine (Kd.R_reads' (e := 2) (base := w.heap.size) (ok := fun k_ => (((True ∧ some k_ ≠ (.slice Ao16 t309.length co16 : Value).ownBlock) ∧ some k_ ≠ (v317 : Value).ownBlock) ∧ some k_ ≠ (v321 : Value).ownBlock)) (n := t323.length) (c := co21) ?_).2.2; exact (by (with_reducible repeat (first | apply Kd.R_alloc | apply Kd.R_drewN | apply Kd.R_drew)); exact (Kd.R_mono (Kd.R_far (p := ⟨gb333, 1, none⟩) (Kd.R_far (p := ⟨gb333, 0, none⟩) (Kd.R_types HO325.out BK333.out (by decide)) (fun _ hk => hk.2) (.int .i64 t330)) (fun _ hk => hk.2) (.int .i64 t331)) (fun _ h_ => h_.1)))); (case side2 => exact (Kd.R_reads' HO325.out).2.1); rintro e w29 ⟨v336, rfl, ho0, hb⟩; refine ⟨_, rfl, ?_⟩; have n0_ := Aside0.mk (Kd.R_elder' (by (with_reducible repeat (first | apply Kd.R_alloc | apply Kd.R_drewN | apply Kd.R_drew)); exact (Kd.R_mono (Kd.R_far (p := ⟨gb333, 1, none⟩) (Kd.R_far (p := ⟨gb333, 0, none⟩) (Kd.R_types HO312.out BK333.out (by decide)) (fun _ hk => hk.2) (.int .i64 t330)) (fun _ hk => hk.2) (.int .i64 t331)) (fun _ h_ => h_.1))) (Kd.R_base ho0) hb); have n1_ := Aside0.mk (Kd.S_elder' (by (with_reducible repeat (first | apply Kd.S_alloc | apply Kd.S_drewN | apply Kd.S_drew)); exact (Kd.S_mono (Kd.S_far (p := ⟨gb333, 1, none⟩) (Kd.S_far (p := ⟨gb333, 0, none⟩) (Kd.S_types HO314.out BK333.out (by decide)) (fun _ hk => hk.2) (.int .i64 t330)) (fun _ hk => hk.2) (.int .i64 t331)) (fun _ h_ => h_.1))) (Kd.R_base ho0) hb); have n2_ := Aside0.mk (Kd.R_elder' (by (with_reducible repeat (first | apply Kd.R_alloc | apply Kd.R_drewN | apply Kd.R_drew)); exact (Kd.R_mono (Kd.R_far (p := ⟨gb333, 1, none⟩) (Kd.R_far (p := ⟨gb333, 0, none⟩) (Kd.R_types HO318.out BK333.out (by decide)) (fun _ hk => hk.2) (.int .i64 t330)) (fun _ hk => hk.2) (.int .i64 t331)) (fun _ h_ => h_.1))) (Kd.R_base ho0) hb); have n3_ := Aside0.mk (Kd.R_elder' (by (with_reducible repeat (first | apply Kd.R_alloc | apply Kd.R_drewN | apply Kd.R_drew)); exact (Kd.R_mono (Kd.R_far (p := ⟨gb333, 1, none⟩) (Kd.R_far (p := ⟨gb333, 0, none⟩) (Kd.R_types HO322.out BK333.out (by decide)) (fun _ hk => hk.2) (.int .i64 t330)) (fun _ hk => hk.2) (.int .i64 t331)) (fun _ h_ => h_.1))) (Kd.R_base ho0) hb); have n4_ := Aside0.mk (Kd.R_elder' (by (with_reducible repeat (first | apply Kd.R_alloc | apply Kd.R_drewN | apply Kd.R_drew)); exact (Kd.R_mono (Kd.R_far (p := ⟨gb333, 1, none⟩) (Kd.R_far (p := ⟨gb333, 0, none⟩) (Kd.R_types HO325.out BK333.out (by decide)) (fun _ hk => hk.2) (.int .i64 t330)) (fun _ hk => hk.2) (.int .i64 t331)) (fun _ h_ => h_.1))) (Kd.R_base ho0) hb); have n5_ := Aside0.mk (Kd.R_lower (Kd.R_new' (Kd.R_new' (Kd.R_new' (Kd.R_new' ho0 (Kd.R_lt (by (with_reducible repeat (first | apply Kd.R_alloc | apply Kd.R_drewN | apply Kd.R_drew)); exact (Kd.R_mono (Kd.R_far (p := ⟨gb333, 1, none⟩) (Kd.R_far (p := ⟨gb333, 0, none⟩) (Kd.R_types HO312.out BK333.out (by decide)) (fun _ hk => hk.2) (.int .i64 t330)) (fun _ hk => hk.2) (.int .i64 t331)) (fun _ h_ => h_.1))))) (Kd.R_lt (by (with_reducible repeat (first | apply Kd.R_alloc | apply Kd.R_drewN | apply Kd.R_drew)); exact (Kd.R_mono (Kd.R_far (p := ⟨gb333, 1, none⟩) (Kd.R_far (p := ⟨gb333, 0, none⟩) (Kd.R_types HO318.out BK333.out (by decide)) (fun _ hk => hk.2) (.int .i64 t330)) (fun _ hk => hk.2) (.int .i64 t331)) (fun _ h_ => h_.1))))) (Kd.R_lt (by (with_reducible repeat (first | apply Kd.R_alloc | apply Kd.R_drewN | apply Kd.R_drew)); exact (Kd.R_mono (Kd.R_far (p := ⟨gb333, 1, none⟩) (Kd.R_far (p := ⟨gb333, 0, none⟩) (Kd.R_types HO322.out BK333.out (by decide)) (fun _ hk => hk.2) (.int .i64 t330)) (fun _ hk => hk.2) (.int .i64 t331)) (fun _ h_ => h_.1))))) (Kd.R_lt (by (with_reducible repeat (first | apply Kd.R_alloc | apply Kd.R_drewN | apply Kd.R_drew)); exact (Kd.R_mono (Kd.R_far (p := ⟨gb333, 1, none⟩) (Kd.R_far (p := ⟨gb333, 0, none⟩) (Kd.R_types HO325.out BK333.out (by decide)) (fun _ hk => hk.2) (.int .i64 t330)) (fun _ hk => hk.2) (.int .i64 t331)) (fun _ h_ => h_.1))))) (below_size (by repeat (first | (with_reducible first | exact HB.out | apply below_alloc | apply pw_below_drewN | apply below_drew1 | refine below_set ?_ GE329.out | refine below_set ?_ GE333.out) | exact HB.out)))); have n6_ := Aside0.mk (blk_below (g := gb329) (o := .cells #[.int .i64 t326, .int .i64 t327] 34 (0, 0)) (by (with_reducible repeat (first | refine blk_drewN ?_ _ | refine blk_drew ?_ | refine blk_alloc ?_ _)); refine blk_far ?_ NB329_333.out _; (with_reducible repeat (first | refine blk_drewN ?_ _ | refine blk_drew ?_ | refine blk_alloc ?_ _)); refine blk_far ?_ NB329_333.out _; (with_reducible repeat (first | refine blk_drewN ?_ _ | refine blk_drew ?_ | refine blk_alloc ?_ _)); exact BK329.out) hb); have n7_ := Aside0.mk (blk_below (g := gb333) (o := .cells #[.int .i64 t330, .int .i64 t331] 34 (0, 0)) (by (with_reducible repeat (first | refine blk_drewN ?_ _ | refine blk_drew ?_ | refine blk_alloc ?_ _)); refine blk_put (cs := #[.int .i64 t330, .int .i64 0]) ?_ 1 _ rfl; (with_reducible repeat (first | refine blk_drewN ?_ _ | refine blk_drew ?_ | refine blk_alloc ?_ _)); refine blk_put (cs := #[.int .i64 0, .int .i64 0]) ?_ 0 _ rfl; (with_reducible repeat (first | refine blk_drewN ?_ _ | refine blk_drew ?_ | refine blk_alloc ?_ _)); exact BK333.out) hb); have n8_ := Aside0.mk (below_step (by repeat (first | (with_reducible first | exact HB.out | apply below_alloc | apply pw_below_drewN | apply below_drew1 | refine below_set ?_ GE329.out | refine below_set ?_ GE333.out) | exact HB.out)) hb); clear HO312; clear HO314; clear HO318; clear HO322; clear HO325; clear BK329; clear BK333; clear HB; have HO312 := n0_; have HO314 := n1_; have HO318 := n2_; have HO322 := n3_; have HO325 := n4_; have HO337 := n5_; have BK329 := n6_; have BK333 := n7_; have HB := n8_; clear n0_ n1_ n2_ n3_ n4_ n5_ n6_ n7_ n8_; (try clear hb); (try clear hb2); (try clear hk); (try clear hi); (try clear ho0)) | ((with_reducible refine gate_callee (f := 25) rfl ?_); refine goesL_ (some 64) rfl rfl Try.func25 (by kernel_rfl) rfl #[.slice Ao21 t323.length co21] rfl (by (try simp only [List.map_toArray, List.map_cons, List.map_nil]); first | done | rfl | (simp only [List.length_drop, List.length_take]; rfl)) ?_; (with_reducible refine (spec_NotOriginal.calls k _ _ t323 t338 t339 _ ?side1 ?side2 A11.out).mono ?_); (case side1 => repeat (first | exact (Kd.R_reads' HO325.out).2.2 | (with_reducible refine Kd.C_alloc ?_ _) | (with_reducible refine Kd.C_drewN ?_ _) | (with_reducible refine Kd.C_drew ?_))); (case side2 => exact (Kd.R_reads' HO325.out).2.1); rintro e w30 ⟨v340, rfl, ho0, hb⟩; refine ⟨_, rfl, ?_⟩; have n0_ := Aside0.mk (Kd.R_elder' (by (with_reducible repeat (first | apply Kd.R_alloc | apply Kd.R_drewN | apply Kd.R_drew)); exact HO312.out) (Kd.R_base ho0) hb); have n1_ := Aside0.mk (Kd.S_elder' (by (with_reducible repeat (first | apply Kd.S_alloc | apply Kd.S_drewN | apply Kd.S_drew)); exact HO314.out) (Kd.R_base ho0) hb); have n2_ := Aside0.mk (Kd.R_elder' (by (with_reducible repeat (first | apply Kd.R_alloc | apply Kd.R_drewN | apply Kd.R_drew)); exact HO318.out) (Kd.R_base ho0) hb); have n3_ := Aside0.mk (Kd.R_elder' (by (with_reducible repeat (first | apply Kd.R_alloc | apply Kd.R_drewN | apply Kd.R_drew)); exact HO322.out) (Kd.R_base ho0) hb); have n4_ := Aside0.mk (Kd.R_elder' (by (with_reducible repeat (first | apply Kd.R_alloc | apply Kd.R_drewN | apply Kd.R_drew)); exact HO325.out) (Kd.R_base ho0) hb); have n5_ := Aside0.mk (Kd.R_elder' (by (with_reducible repeat (first | apply Kd.R_alloc | apply Kd.R_drewN | apply Kd.R_drew)); exact HO337.out) (Kd.R_base ho0) hb); have n6_ := Aside0.mk (Kd.R_lower (Kd.R_new' (Kd.R_new' (Kd.R_new' (Kd.R_new' (Kd.R_new' ho0 (Kd.R_lt (by (with_reducible repeat (first | apply Kd.R_alloc | apply Kd.R_drewN | apply Kd.R_drew)); exact HO312.out))) (Kd.R_lt (by (with_reducible repeat (first | apply Kd.R_alloc | apply Kd.R_drewN | apply Kd.R_drew)); exact HO318.out))) (Kd.R_lt (by (with_reducible repeat (first | apply Kd.R_alloc | apply Kd.R_drewN | apply Kd.R_drew)); exact HO322.out))) (Kd.R_lt (by (with_reducible repeat (first | apply Kd.R_alloc | apply Kd.R_drewN | apply Kd.R_drew)); exact HO325.out))) (Kd.R_lt (by (with_reducible repeat (first | apply Kd.R_alloc | apply Kd.R_drewN | apply Kd.R_drew)); exact HO337.out))) (below_size (by repeat (first | (with_reducible first | exact HB.out | apply below_alloc | apply pw_below_drewN | apply below_drew1 | refine below_set ?_ GE329.out | refine below_set ?_ GE333.out) | exact HB.out)))); have n7_ := Aside0.mk (blk_below (g := gb329) (o := .cells #[.int .i64 t326, .int .i64 t327] 34 (0, 0)) (by (with_reducible repeat (first | refine blk_drewN ?_ _ | refine blk_drew ?_ | refine blk_alloc ?_ _)); exact BK329.out) hb); have n8_ := Aside0.mk (blk_below (g := gb333) (o := .cells #[.int .i64 t330, .int .i64 t331] 34 (0, 0)) (by (with_reducible repeat (first | refine blk_drewN ?_ _ | refine blk_drew ?_ | refine blk_alloc ?_ _)); exact BK333.out) hb); have n9_ := Aside0.mk (below_step (by repeat (first | (with_reducible first | exact HB.out | apply below_alloc | apply pw_below_drewN | apply below_drew1 | refine below_set ?_ GE329.out | refine below_set ?_ GE333.out) | exact HB.out)) hb); clear HO312; clear HO314; clear HO318; clear HO322; clear HO325; clear HO337; clear BK329; clear BK333; clear HB; have HO312 := n0_; have HO314 := n1_; have HO318 := n2_; have HO322 := n3_; have HO325 := n4_; have HO337 := n5_; have HO341 := n6_; have BK329 := n7_; have BK333 := n8_; have HB := n9_; clear n0_ n1_ n2_ n3_ n4_ n5_ n6_ n7_ n8_ n9_; (try clear hb); (try clear hb2); (try clear hk); (try clear hi); (try clear ho0)) | ((with_reducible refine gate_callee (f := 22) rfl ?_); refine goesL_ (some 69) rfl rfl Try.func22 (by kernel_rfl) rfl #[.slice Ao21 t323.length co21] rfl (by (try simp only [List.map_toArray, List.map_cons, List.map_nil]); first | done | rfl | (simp only [List.length_drop, List.length_take]; rfl)) ?_; (with_reducible refine (impl_CountStates.calls k _ _ t323 t342 t343 _ ?side1 ?side2 A12.out).mono ?_); (case side1 => repeat (first | exact (Kd.R_reads' HO325.out).2.2 | (with_reducible refine Kd.C_alloc ?_ _) | (with_reducible refine Kd.C_drewN ?_ _) | (with_reducible refine Kd.C_drew ?_))); (case side2 => exact (Kd.R_reads' HO325.out).2.1); rintro e w31 ⟨v344, rfl, ho0, hb⟩; refine ⟨_, rfl, ?_⟩; have n0_ := Aside0.mk (Kd.R_elder' (by (with_reducible repeat (first | apply Kd.R_alloc | apply Kd.R_drewN | apply Kd.R_drew)); exact HO312.out) (Kd.R_base ho0) hb); have n1_ := Aside0.mk (Kd.S_elder' (by (with_reducible repeat (first | apply Kd.S_alloc | apply Kd.S_drewN | apply Kd.S_drew)); exact HO314.out) (Kd.R_base ho0) hb); have n2_ := Aside0.mk (Kd.R_elder' (by (with_reducible repeat (first | apply Kd.R_alloc | apply Kd.R_drewN | apply Kd.R_drew)); exact HO318.out) (Kd.R_base ho0) hb); have n3_ := Aside0.mk (Kd.R_elder' (by (with_reducible repeat (first | apply Kd.R_alloc | apply Kd.R_drewN | apply Kd.R_drew)); exact HO322.out) (Kd.R_base ho0) hb); have n4_ := Aside0.mk (Kd.R_elder' (by (with_reducible repeat (first | apply Kd.R_alloc | apply Kd.R_drewN | apply Kd.R_drew)); exact HO325.out) (Kd.R_base ho0) hb); have n5_ := Aside0.mk (Kd.R_elder' (by (with_reducible repeat (first | apply Kd.R_alloc | apply Kd.R_drewN | apply Kd.R_drew)); exact HO337.out) (Kd.R_base ho0) hb); have n6_ := Aside0.mk (Kd.R_elder' (by (with_reducible repeat (first | apply Kd.R_alloc | apply Kd.R_drewN | apply Kd.R_drew)); exact HO341.out) (Kd.R_base ho0) hb); have n7_ := Aside0.mk (Kd.R_lower (Kd.R_new' (Kd.R_new' (Kd.R_new' (Kd.R_new' (Kd.R_new' (Kd.R_new' ho0 (Kd.R_lt (by (with_reducible repeat (first | apply Kd.R_alloc | apply Kd.R_drewN | apply Kd.R_drew)); exact HO312.out))) (Kd.R_lt (by (with_reducible repeat (first | apply Kd.R_alloc | apply Kd.R_drewN | apply Kd.R_drew)); exact HO318.out))) (Kd.R_lt (by (with_reducible repeat (first | apply Kd.R_alloc | apply Kd.R_drewN | apply Kd.R_drew)); exact HO322.out))) (Kd.R_lt (by (with_reducible repeat (first | apply Kd.R_alloc | apply Kd.R_drewN | apply Kd.R_drew)); exact HO325.out))) (Kd.R_lt (by (with_reducible repeat (first | apply Kd.R_alloc | apply Kd.R_drewN | apply Kd.R_drew)); exact HO337.out))) (Kd.R_lt (by (with_reducible repeat (first | apply Kd.R_alloc | apply Kd.R_drewN | apply Kd.R_drew)); exact HO341.out))) (below_size (by repeat (first | (with_reducible first | exact HB.out | apply below_alloc | apply pw_below_drewN | apply below_drew1 | refine below_set ?_ GE329.out | refine below_set ?_ GE333.out) | exact HB.out)))); have n8_ := Aside0.mk (blk_below (g := gb329) (o := .cells #[.int .i64 t326, .int .i64 t327] 34 (0, 0)) (by (with_reducible repeat (first | refine blk_drewN ?_ _ | refine blk_drew ?_ | refine blk_alloc ?_ _)); exact BK329.out) hb); have n9_ := Aside0.mk (blk_below (g := gb333) (o := .cells #[.int .i64 t330, .int .i64 t331] 34 (0, 0)) (by (with_reducible repeat (first | refine blk_drewN ?_ _ | refine blk_drew ?_ | refine blk_alloc ?_ _)); exact BK333.out) hb); have n10_ := Aside0.mk (below_step (by repeat (first | (with_reducible first | exact HB.out | apply below_alloc | apply pw_below_drewN | apply below_drew1 | refine below_set ?_ GE329.out | refine below_set ?_ GE333.out) | exact HB.out)) hb); clear HO312; clear HO314; clear HO318; clear HO322; clear HO325; clear HO337; clear HO341; clear BK329; clear BK333; clear HB; have HO312 := n0_; have HO314 := n1_; have HO318 := n2_; have HO322 := n3_; have HO325 := n4_; have HO337 := n5_; have HO341 := n6_; have HO345 := n7_; have BK329 := n8_; have BK333 := n9_; have HB := n10_; clear n0_ n1_ n2_ n3_ n4_ n5_ n6_ n7_ n8_ n9_ n10_; (try clear hb); (try clear hb2); (try clear hk); (try clear hi); (try clear ho0)) | ((with_reducible refine gate_callee (f := 21) rfl ?_); refine goesL_ (some 74) rfl rfl Try.func21 (by kernel_rfl) rfl #[.slice Ao21 t323.length co21] rfl (by (try simp only [List.map_toArray, List.map_cons, List.map_nil]); first | done | rfl | (simp only [List.length_drop, List.length_take]; rfl)) ?_; (with_reducible refine (spec_CountStates.calls k _ _ t323 t346 t347 _ ?side1 ?side2 A13.out).mono ?_); (case side1 => repeat (first | exact (Kd.R_reads' HO325.out).2.2 | (with_reducible refine Kd.C_alloc ?_ _) | (with_reducible refine Kd.C_drewN ?_ _) | (with_reducible refine Kd.C_drew ?_))); (case side2 => exact (Kd.R_reads' HO325.out).2.1); rintro e w32 ⟨v348, rfl, ho0, hb⟩; refine ⟨_, rfl, ?_⟩; have n0_ := Aside0.mk (Kd.R_elder' (by (with_reducible repeat (first | apply Kd.R_alloc | apply Kd.R_drewN | apply Kd.R_drew)); exact HO312.out) (Kd.R_base ho0) hb); have n1_ := Aside0.mk (Kd.S_elder' (by (with_reducible repeat (first | apply Kd.S_alloc | apply Kd.S_drewN | apply Kd.S_drew)); exact HO314.out) (Kd.R_base ho0) hb); have n2_ := Aside0.mk (Kd.R_elder' (by (with_reducible repeat (first | apply Kd.R_alloc | apply Kd.R_drewN | apply Kd.R_drew)); exact HO318.out) (Kd.R_base ho0) hb); have n3_ := Aside0.mk (Kd.R_elder' (by (with_reducible repeat (first | apply Kd.R_alloc | apply Kd.R_drewN | apply Kd.R_drew)); exact HO322.out) (Kd.R_base ho0) hb); have n4_ := Aside0.mk (Kd.R_elder' (by (with_reducible repeat (first | apply Kd.R_alloc | apply Kd.R_drewN | apply Kd.R_drew)); exact HO325.out) (Kd.R_base ho0) hb); have n5_ := Aside0.mk (Kd.R_elder' (by (with_reducible repeat (first | apply Kd.R_alloc | apply Kd.R_drewN | apply Kd.R_drew)); exact HO337.out) (Kd.R_base ho0) hb); have n6_ := Aside0.mk (Kd.R_elder' (by (with_reducible repeat (first | apply Kd.R_alloc | apply Kd.R_drewN | apply Kd.R_drew)); exact HO341.out) (Kd.R_base ho0) hb); have n7_ := Aside0.mk (Kd.R_elder' (by (with_reducible repeat (first | apply Kd.R_alloc | apply Kd.R_drewN | apply Kd.R_drew)); exact HO345.out) (Kd.R_base ho0) hb); have n8_ := Aside0.mk (Kd.R_lower (Kd.R_new' (Kd.R_new' (Kd.R_new' (Kd.R_new' (Kd.R_new' (Kd.R_new' (Kd.R_new' ho0 (Kd.R_lt (by (with_reducible repeat (first | apply Kd.R_alloc | apply Kd.R_drewN | apply Kd.R_drew)); exact HO312.out))) (Kd.R_lt (by (with_reducible repeat (first | apply Kd.R_alloc | apply Kd.R_drewN | apply Kd.R_drew)); exact HO318.out))) (Kd.R_lt (by (with_reducible repeat (first | apply Kd.R_alloc | apply Kd.R_drewN | apply Kd.R_drew)); exact HO322.out))) (Kd.R_lt (by (with_reducible repeat (first | apply Kd.R_alloc | apply Kd.R_drewN | apply Kd.R_drew)); exact HO325.out))) (Kd.R_lt (by (with_reducible repeat (first | apply Kd.R_alloc | apply Kd.R_drewN | apply Kd.R_drew)); exact HO337.out))) (Kd.R_lt (by (with_reducible repeat (first | apply Kd.R_alloc | apply Kd.R_drewN | apply Kd.R_drew)); exact HO341.out))) (Kd.R_lt (by (with_reducible repeat (first | apply Kd.R_alloc | apply Kd.R_drewN | apply Kd.R_drew)); exact HO345.out))) (below_size (by repeat (first | (with_reducible first | exact HB.out | apply below_alloc | apply pw_below_drewN | apply below_drew1 | refine below_set ?_ GE329.out | refine below_set ?_ GE333.out) | exact HB.out)))); have n9_ := Aside0.mk (blk_below (g := gb329) (o := .cells #[.int .i64 t326, .int .i64 t327] 34 (0, 0)) (by (with_reducible repeat (first | refine blk_drewN ?_ _ | refine blk_drew ?_ | refine blk_alloc ?_ _)); exact BK329.out) hb); have n10_ := Aside0.mk (blk_below (g := gb333) (o := .cells #[.int .i64 t330, .int .i64 t331] 34 (0, 0)) (by (with_reducible repeat (first | refine blk_drewN ?_ _ | refine blk_drew ?_ | refine blk_alloc ?_ _)); exact BK333.out) hb); have n11_ := Aside0.mk (below_step (by repeat (first | (with_reducible first | exact HB.out | apply below_alloc | apply pw_below_drewN | apply below_drew1 | refine below_set ?_ GE329.out | refine below_set ?_ GE333.out) | exact HB.out)) hb); clear HO312; clear HO314; clear HO318; clear HO322; clear HO325; clear HO337; clear HO341; clear HO345; clear BK329; clear BK333; clear HB; have HO312 := n0_; have HO314 := n1_; have HO318 := n2_; have HO322 := n3_; have HO325 := n4_; have HO337 := n5_; have HO341 := n6_; have HO345 := n7_; have HO349 := n8_; have BK329 := n9_; have BK333 := n10_; have HB := n11_; clear n0_ n1_ n2_ n3_ n4_ n5_ n6_ n7_ n8_ n9_ n10_ n11_; (try clear hb); (try clear hb2); (try clear hk); (try clear hi); (try clear ho0)))
    (try simp only [Act.put, List.setIfInBounds_toArray, List.set_cons_zero, List.set_cons_succ])
    go_cut [117] (fun v117 wc => ∃ (kq : Nat) (x117_13 : Bool), v117 = .bool x117_13 ∧ Aside0 (laws_FnCopiesUsed.j0 kq t309 t310 t316 t319 t323 t328 t338 t343 t346 x117_13 t330 t331 = some r) ∧ Aside0 (kq ≤ k) ∧ Aside0 (Kd.R (Kd.int .i64) 2 wc w.heap.size (fun k_ => some k_ ≠ (v321 : Value).ownBlock ∧ some k_ ≠ ((.slice Ao21 t323.length co21) : Value).ownBlock ∧ some k_ ≠ (v340 : Value).ownBlock ∧ some k_ ≠ (v348 : Value).ownBlock) (.slice Ao16 t309.length co16) t309) ∧ Aside0 (Kd.S (Kd.slice 2 (Kd.int .i64)) 22 wc w.heap.size (fun k_ => some k_ ≠ ((.slice Ao16 t309.length co16) : Value).ownBlock ∧ some k_ ≠ (v321 : Value).ownBlock ∧ some k_ ≠ ((.slice Ao21 t323.length co21) : Value).ownBlock ∧ some k_ ≠ (v340 : Value).ownBlock ∧ some k_ ≠ (v348 : Value).ownBlock) (.slice Ao17 t310.length co17) t310) ∧ Aside0 (Kd.R (Kd.int .i64) 2 wc w.heap.size (fun k_ => some k_ ≠ ((.slice Ao16 t309.length co16) : Value).ownBlock ∧ some k_ ≠ ((.slice Ao21 t323.length co21) : Value).ownBlock ∧ some k_ ≠ (v340 : Value).ownBlock ∧ some k_ ≠ (v348 : Value).ownBlock) v321 t319) ∧ Aside0 (Kd.R (Kd.int .i64) 2 wc w.heap.size (fun k_ => some k_ ≠ ((.slice Ao16 t309.length co16) : Value).ownBlock ∧ some k_ ≠ (v321 : Value).ownBlock ∧ some k_ ≠ (v340 : Value).ownBlock ∧ some k_ ≠ (v348 : Value).ownBlock) (.slice Ao21 t323.length co21) t323) ∧ Aside0 (Kd.R (Kd.int .i64) 2 wc w.heap.size (fun k_ => some k_ ≠ ((.slice Ao16 t309.length co16) : Value).ownBlock ∧ some k_ ≠ (v321 : Value).ownBlock ∧ some k_ ≠ ((.slice Ao21 t323.length co21) : Value).ownBlock ∧ some k_ ≠ (v348 : Value).ownBlock) v340 t338) ∧ Aside0 (Kd.R (Kd.int .i64) 2 wc w.heap.size (fun k_ => some k_ ≠ ((.slice Ao16 t309.length co16) : Value).ownBlock ∧ some k_ ≠ (v321 : Value).ownBlock ∧ some k_ ≠ ((.slice Ao21 t323.length co21) : Value).ownBlock ∧ some k_ ≠ (v340 : Value).ownBlock) v348 t346) ∧ Aside0 (wc.heap[gb329]? = some (.cells #[.int .i64 t326, .int .i64 t327] 34 (0, 0))) ∧ Aside0 (wc.heap[gb333]? = some (.cells #[.int .i64 t330, .int .i64 t331] 34 (0, 0))) ∧ Aside0 (Below w.heap.size w wc))
    case first =>
      have H := HC14.out
      clear HC14
      by_cases c33 : t316 = t320
      · rw [if_pos c33] at H
        have c33b0 : (t316 == t320) = true := beq_iff_eq.mpr c33
        have c33b1 : (t316 != t320) = false := bne_eq_false_iff_eq.mpr c33
        clear c33
        (first | rw [c33b0] | (simp only [i64_w, i32_w]; rw [c33b0]) | skip)
        replace H := Option.bind_eq_some_iff.mp H
        obtain ⟨t350, A340, H⟩ := H
        replace H : (if t350 = true then (if t328 = t332 then (if (!(t326 == t330) || (!(t327 == t331))) = true then (laws_FnCopiesUsed.j0 k t309 t310 t316 t319 t323 t328 t338 t343 t346 true t330 t331) else (if t335 = t339 then ((laws_f6ints.f k t334 t338).bind fun t351 => (if t351 = true then (if t343 = t347 then ((laws_f6ints.f k t342 t346).bind fun t352 => (laws_FnCopiesUsed.j0 k t309 t310 t316 t319 t323 t328 t338 t343 t346 (!t352) t330 t331)) else (laws_FnCopiesUsed.j0 k t309 t310 t316 t319 t323 t328 t338 t343 t346 true t330 t331)) else (laws_FnCopiesUsed.j0 k t309 t310 t316 t319 t323 t328 t338 t343 t346 true t330 t331))) else (laws_FnCopiesUsed.j0 k t309 t310 t316 t319 t323 t328 t338 t343 t346 true t330 t331))) else (laws_FnCopiesUsed.j0 k t309 t310 t316 t319 t323 t328 t338 t343 t346 true t330 t331)) else (laws_FnCopiesUsed.j0 k t309 t310 t316 t319 t323 t328 t338 t343 t346 true t330 t331)) = some r := H
        have A34 := Aside0.mk A340
        clear A340
        by_cases c35 : t350 = true
        · subst c35
          have H1 : (if t328 = t332 then (if (!(t326 == t330) || (!(t327 == t331))) = true then (laws_FnCopiesUsed.j0 k t309 t310 t316 t319 t323 t328 t338 t343 t346 true t330 t331) else (if t335 = t339 then ((laws_f6ints.f k t334 t338).bind fun t351 => (if t351 = true then (if t343 = t347 then ((laws_f6ints.f k t342 t346).bind fun t352 => (laws_FnCopiesUsed.j0 k t309 t310 t316 t319 t323 t328 t338 t343 t346 (!t352) t330 t331)) else (laws_FnCopiesUsed.j0 k t309 t310 t316 t319 t323 t328 t338 t343 t346 true t330 t331)) else (laws_FnCopiesUsed.j0 k t309 t310 t316 t319 t323 t328 t338 t343 t346 true t330 t331))) else (laws_FnCopiesUsed.j0 k t309 t310 t316 t319 t323 t328 t338 t343 t346 true t330 t331))) else (laws_FnCopiesUsed.j0 k t309 t310 t316 t319 t323 t328 t338 t343 t346 true t330 t331)) = some r := by rw [if_pos rfl] at H; exact H
          clear H
          have H := H1
          clear H1
          by_cases c36 : t328 = t332
          · rw [if_pos c36] at H
            have c36b0 : (t328 == t332) = true := beq_iff_eq.mpr c36
            have c36b1 : (t328 != t332) = false := bne_eq_false_iff_eq.mpr c36
            clear c36
            by_cases c37 : (!(t326 == t330) || (!(t327 == t331))) = true
            · rw [if_pos c37] at H
              have c37b0 : (!(t326 == t330) || (!(t327 == t331))) = true := c37
              clear c37
              have H' := Aside0.mk H
              clear H
              obtain ⟨Ao38, co38, eo38⟩ := Kd.R_slice HO318.out
              subst eo38
              obtain ⟨Ao39, co39, eo39⟩ := Kd.R_slice HO322.out
              subst eo39
              go_wp2_with (first | (go_at_call 52; (with_reducible refine (laws_f6ints.calls k _ _ t315 _ _ t319 true _ ?side1 ?side2 ?side3 ?side4 A34.out).mono ?_); (case side1 => repeat (first | exact (Kd.R_reads' HO318.out).2.2 | (with_reducible refine Kd.C_alloc ?_ _) | (with_reducible refine Kd.C_drewN ?_ _) | (with_reducible refine Kd.C_drew ?_))); (case side2 => exact (Kd.R_reads' HO318.out).2.1); (case side3 => repeat (first | exact (Kd.R_reads' HO322.out).2.2 | (with_reducible refine Kd.C_alloc ?_ _) | (with_reducible refine Kd.C_drewN ?_ _) | (with_reducible refine Kd.C_drew ?_))); (case side4 => exact (Kd.R_reads' HO322.out).2.1); rintro e w' ⟨rfl, ⟨nd, rfl⟩⟩; have hnb40 := NB329_333.out; have hnc40 := NB333_329.out; have hcz41_0 : w32.cell? ⟨gb329, 0, none⟩ = some (.int .i64 t326) := (blk_cell BK329.out 0).trans rfl; have hcz41_1 : w32.cell? ⟨gb329, 1, none⟩ = some (.int .i64 t327) := (blk_cell BK329.out 1).trans rfl; have hfz41_0 := blk_frozen BK329.out 0; have hfz41_1 := blk_frozen BK329.out 1; have hcz42_0 : w32.cell? ⟨gb333, 0, none⟩ = some (.int .i64 t330) := (blk_cell BK333.out 0).trans rfl; have hcz42_1 : w32.cell? ⟨gb333, 1, none⟩ = some (.int .i64 t331) := (blk_cell BK333.out 1).trans rfl; have hfz42_0 := blk_frozen BK333.out 0; have hfz42_1 := blk_frozen BK333.out 1))
              go_meet
              case rel => exact ⟨_, (true), (by first | rfl | (simp; done) | (simp [*]; done)), H', ⟨by first | omega | exact Nat.le_refl _⟩, ⟨by (with_reducible repeat (first | apply Kd.R_alloc | apply Kd.R_drewN | apply Kd.R_drew)); exact Kd.R_mono HO312.out (fun _ hk => ⟨hk.1.1.1.1.1.2, ⟨hk.1.1.1.1.2, ⟨hk.1.1.2, hk.2⟩⟩⟩)⟩, ⟨by (with_reducible repeat (first | apply Kd.S_alloc | apply Kd.S_drewN | apply Kd.S_drew)); exact Kd.S_mono HO314.out (fun _ hk => ⟨hk.1.1.1.1.1.1.1, ⟨hk.1.1.1.1.1.2, ⟨hk.1.1.1.1.2, ⟨hk.1.1.2, hk.2⟩⟩⟩⟩)⟩, ⟨by (with_reducible repeat (first | apply Kd.R_alloc | apply Kd.R_drewN | apply Kd.R_drew)); exact Kd.R_mono HO322.out (fun _ hk => ⟨hk.1.1.1.1.1.1.2, ⟨hk.1.1.1.1.2, ⟨hk.1.1.2, hk.2⟩⟩⟩)⟩, ⟨by (with_reducible repeat (first | apply Kd.R_alloc | apply Kd.R_drewN | apply Kd.R_drew)); exact Kd.R_mono HO325.out (fun _ hk => ⟨hk.1.1.1.1.1.1.2, ⟨hk.1.1.1.1.2, ⟨hk.1.1.2, hk.2⟩⟩⟩)⟩, ⟨by (with_reducible repeat (first | apply Kd.R_alloc | apply Kd.R_drewN | apply Kd.R_drew)); exact Kd.R_mono HO341.out (fun _ hk => ⟨hk.1.1.1.1.1.1.2, ⟨hk.1.1.1.1.2, ⟨hk.1.1.1.2, hk.2⟩⟩⟩)⟩, ⟨by (with_reducible repeat (first | apply Kd.R_alloc | apply Kd.R_drewN | apply Kd.R_drew)); exact Kd.R_mono HO349.out (fun _ hk => ⟨hk.1.1.1.1.1.1.2, ⟨hk.1.1.1.1.2, ⟨hk.1.1.1.2, hk.1.2⟩⟩⟩)⟩, ⟨by (with_reducible repeat (first | refine blk_drewN ?_ _ | refine blk_drew ?_ | refine blk_alloc ?_ _)); exact BK329.out⟩, ⟨by (with_reducible repeat (first | refine blk_drewN ?_ _ | refine blk_drew ?_ | refine blk_alloc ?_ _)); exact BK333.out⟩, ⟨by repeat (first | (with_reducible first | exact HB.out | apply below_alloc | apply pw_below_drewN | apply below_drew1 | refine below_set ?_ GE329.out | refine below_set ?_ GE333.out) | exact HB.out)⟩⟩
            · rw [if_neg c37] at H
              have c37b0 : (!(t326 == t330) || (!(t327 == t331))) = false := by simpa using c37
              clear c37
              by_cases c43 : t335 = t339
              · rw [if_pos c43] at H
                have c43b0 : (t335 == t339) = true := beq_iff_eq.mpr c43
                have c43b1 : (t335 != t339) = false := bne_eq_false_iff_eq.mpr c43
                clear c43
                replace H := Option.bind_eq_some_iff.mp H
                obtain ⟨t351, A440, H⟩ := H
                replace H : (if t351 = true then (if t343 = t347 then ((laws_f6ints.f k t342 t346).bind fun t352 => (laws_FnCopiesUsed.j0 k t309 t310 t316 t319 t323 t328 t338 t343 t346 (!t352) t330 t331)) else (laws_FnCopiesUsed.j0 k t309 t310 t316 t319 t323 t328 t338 t343 t346 true t330 t331)) else (laws_FnCopiesUsed.j0 k t309 t310 t316 t319 t323 t328 t338 t343 t346 true t330 t331)) = some r := H
                have A44 := Aside0.mk A440
                clear A440
                by_cases c45 : t351 = true
                · subst c45
                  have H1 : (if t343 = t347 then ((laws_f6ints.f k t342 t346).bind fun t352 => (laws_FnCopiesUsed.j0 k t309 t310 t316 t319 t323 t328 t338 t343 t346 (!t352) t330 t331)) else (laws_FnCopiesUsed.j0 k t309 t310 t316 t319 t323 t328 t338 t343 t346 true t330 t331)) = some r := by rw [if_pos rfl] at H; exact H
                  clear H
                  have H := H1
                  clear H1
                  by_cases c46 : t343 = t347
                  · rw [if_pos c46] at H
                    have c46b0 : (t343 == t347) = true := beq_iff_eq.mpr c46
                    have c46b1 : (t343 != t347) = false := bne_eq_false_iff_eq.mpr c46
                    clear c46
                    replace H := Option.bind_eq_some_iff.mp H
                    obtain ⟨t352, A470, H⟩ := H
                    replace H : (laws_FnCopiesUsed.j0 k t309 t310 t316 t319 t323 t328 t338 t343 t346 (!t352) t330 t331) = some r := H
                    have A47 := Aside0.mk A470
                    clear A470
                    have H' := Aside0.mk H
                    clear H
                    obtain ⟨Ao48, co48, eo48⟩ := Kd.R_slice HO318.out
                    subst eo48
                    obtain ⟨Ao49, co49, eo49⟩ := Kd.R_slice HO322.out
                    subst eo49
                    go_wp2_with (first | (go_at_call 52; (with_reducible refine (laws_f6ints.calls k _ _ t315 _ _ t319 true _ ?side1 ?side2 ?side3 ?side4 A34.out).mono ?_); (case side1 => repeat (first | exact (Kd.R_reads' HO318.out).2.2 | (with_reducible refine Kd.C_alloc ?_ _) | (with_reducible refine Kd.C_drewN ?_ _) | (with_reducible refine Kd.C_drew ?_))); (case side2 => exact (Kd.R_reads' HO318.out).2.1); (case side3 => repeat (first | exact (Kd.R_reads' HO322.out).2.2 | (with_reducible refine Kd.C_alloc ?_ _) | (with_reducible refine Kd.C_drewN ?_ _) | (with_reducible refine Kd.C_drew ?_))); (case side4 => exact (Kd.R_reads' HO322.out).2.1); rintro e w' ⟨rfl, ⟨nd, rfl⟩⟩; have hnb50 := NB329_333.out; have hnc50 := NB333_329.out; have hcz51_0 : w32.cell? ⟨gb329, 0, none⟩ = some (.int .i64 t326) := (blk_cell BK329.out 0).trans rfl; have hcz51_1 : w32.cell? ⟨gb329, 1, none⟩ = some (.int .i64 t327) := (blk_cell BK329.out 1).trans rfl; have hfz51_0 := blk_frozen BK329.out 0; have hfz51_1 := blk_frozen BK329.out 1; have hcz52_0 : w32.cell? ⟨gb333, 0, none⟩ = some (.int .i64 t330) := (blk_cell BK333.out 0).trans rfl; have hcz52_1 : w32.cell? ⟨gb333, 1, none⟩ = some (.int .i64 t331) := (blk_cell BK333.out 1).trans rfl; have hfz52_0 := blk_frozen BK333.out 0; have hfz52_1 := blk_frozen BK333.out 1; obtain ⟨Ao53, co53, eo53⟩ := Kd.R_slice HO337.out; subst eo53; obtain ⟨Ao54, co54, eo54⟩ := Kd.R_slice HO341.out; subst eo54) | (go_at_call 52; (with_reducible refine (laws_f6ints.calls k _ _ t334 _ _ t338 true _ ?side1 ?side2 ?side3 ?side4 A44.out).mono ?_); (case side1 => repeat (first | exact (Kd.R_reads' HO337.out).2.2 | (with_reducible refine Kd.C_alloc ?_ _) | (with_reducible refine Kd.C_drewN ?_ _) | (with_reducible refine Kd.C_drew ?_))); (case side2 => exact (Kd.R_reads' HO337.out).2.1); (case side3 => repeat (first | exact (Kd.R_reads' HO341.out).2.2 | (with_reducible refine Kd.C_alloc ?_ _) | (with_reducible refine Kd.C_drewN ?_ _) | (with_reducible refine Kd.C_drew ?_))); (case side4 => exact (Kd.R_reads' HO341.out).2.1); rintro e w' ⟨rfl, ⟨nd, rfl⟩⟩; obtain ⟨Ao55, co55, eo55⟩ := Kd.R_slice HO345.out; subst eo55; obtain ⟨Ao56, co56, eo56⟩ := Kd.R_slice HO349.out; subst eo56) | (go_at_call 52; (with_reducible refine (laws_f6ints.calls k _ _ t342 _ _ t346 t352 _ ?side1 ?side2 ?side3 ?side4 A47.out).mono ?_); (case side1 => repeat (first | exact (Kd.R_reads' HO345.out).2.2 | (with_reducible refine Kd.C_alloc ?_ _) | (with_reducible refine Kd.C_drewN ?_ _) | (with_reducible refine Kd.C_drew ?_))); (case side2 => exact (Kd.R_reads' HO345.out).2.1); (case side3 => repeat (first | exact (Kd.R_reads' HO349.out).2.2 | (with_reducible refine Kd.C_alloc ?_ _) | (with_reducible refine Kd.C_drewN ?_ _) | (with_reducible refine Kd.C_drew ?_))); (case side4 => exact (Kd.R_reads' HO349.out).2.1); rintro e w' ⟨rfl, ⟨nd, rfl⟩⟩))
                    go_meet
                    case rel => exact ⟨_, (!t352), (by first | rfl | (simp; done) | (simp [*]; done)), H', ⟨by first | omega | exact Nat.le_refl _⟩, ⟨by (with_reducible repeat (first | apply Kd.R_alloc | apply Kd.R_drewN | apply Kd.R_drew)); exact Kd.R_mono HO312.out (fun _ hk => ⟨hk.1.1.1.1.1.2, ⟨hk.1.1.1.1.2, ⟨hk.1.1.2, hk.2⟩⟩⟩)⟩, ⟨by (with_reducible repeat (first | apply Kd.S_alloc | apply Kd.S_drewN | apply Kd.S_drew)); exact Kd.S_mono HO314.out (fun _ hk => ⟨hk.1.1.1.1.1.1.1, ⟨hk.1.1.1.1.1.2, ⟨hk.1.1.1.1.2, ⟨hk.1.1.2, hk.2⟩⟩⟩⟩)⟩, ⟨by (with_reducible repeat (first | apply Kd.R_alloc | apply Kd.R_drewN | apply Kd.R_drew)); exact Kd.R_mono HO322.out (fun _ hk => ⟨hk.1.1.1.1.1.1.2, ⟨hk.1.1.1.1.2, ⟨hk.1.1.2, hk.2⟩⟩⟩)⟩, ⟨by (with_reducible repeat (first | apply Kd.R_alloc | apply Kd.R_drewN | apply Kd.R_drew)); exact Kd.R_mono HO325.out (fun _ hk => ⟨hk.1.1.1.1.1.1.2, ⟨hk.1.1.1.1.2, ⟨hk.1.1.2, hk.2⟩⟩⟩)⟩, ⟨by (with_reducible repeat (first | apply Kd.R_alloc | apply Kd.R_drewN | apply Kd.R_drew)); exact Kd.R_mono HO341.out (fun _ hk => ⟨hk.1.1.1.1.1.1.2, ⟨hk.1.1.1.1.2, ⟨hk.1.1.1.2, hk.2⟩⟩⟩)⟩, ⟨by (with_reducible repeat (first | apply Kd.R_alloc | apply Kd.R_drewN | apply Kd.R_drew)); exact Kd.R_mono HO349.out (fun _ hk => ⟨hk.1.1.1.1.1.1.2, ⟨hk.1.1.1.1.2, ⟨hk.1.1.1.2, hk.1.2⟩⟩⟩)⟩, ⟨by (with_reducible repeat (first | refine blk_drewN ?_ _ | refine blk_drew ?_ | refine blk_alloc ?_ _)); exact BK329.out⟩, ⟨by (with_reducible repeat (first | refine blk_drewN ?_ _ | refine blk_drew ?_ | refine blk_alloc ?_ _)); exact BK333.out⟩, ⟨by repeat (first | (with_reducible first | exact HB.out | apply below_alloc | apply pw_below_drewN | apply below_drew1 | refine below_set ?_ GE329.out | refine below_set ?_ GE333.out) | exact HB.out)⟩⟩
                  · rw [if_neg c46] at H
                    have c46b0 : (t343 == t347) = false := beq_eq_false_iff_ne.mpr c46
                    have c46b1 : (t343 != t347) = true := bne_iff_ne.mpr c46
                    have H' := Aside0.mk H
                    clear H
                    obtain ⟨Ao57, co57, eo57⟩ := Kd.R_slice HO318.out
                    subst eo57
                    obtain ⟨Ao58, co58, eo58⟩ := Kd.R_slice HO322.out
                    subst eo58
                    go_wp2_with (first | (go_at_call 52; (with_reducible refine (laws_f6ints.calls k _ _ t315 _ _ t319 true _ ?side1 ?side2 ?side3 ?side4 A34.out).mono ?_); (case side1 => repeat (first | exact (Kd.R_reads' HO318.out).2.2 | (with_reducible refine Kd.C_alloc ?_ _) | (with_reducible refine Kd.C_drewN ?_ _) | (with_reducible refine Kd.C_drew ?_))); (case side2 => exact (Kd.R_reads' HO318.out).2.1); (case side3 => repeat (first | exact (Kd.R_reads' HO322.out).2.2 | (with_reducible refine Kd.C_alloc ?_ _) | (with_reducible refine Kd.C_drewN ?_ _) | (with_reducible refine Kd.C_drew ?_))); (case side4 => exact (Kd.R_reads' HO322.out).2.1); rintro e w' ⟨rfl, ⟨nd, rfl⟩⟩; have hnb59 := NB329_333.out; have hnc59 := NB333_329.out; have hcz60_0 : w32.cell? ⟨gb329, 0, none⟩ = some (.int .i64 t326) := (blk_cell BK329.out 0).trans rfl; have hcz60_1 : w32.cell? ⟨gb329, 1, none⟩ = some (.int .i64 t327) := (blk_cell BK329.out 1).trans rfl; have hfz60_0 := blk_frozen BK329.out 0; have hfz60_1 := blk_frozen BK329.out 1; have hcz61_0 : w32.cell? ⟨gb333, 0, none⟩ = some (.int .i64 t330) := (blk_cell BK333.out 0).trans rfl; have hcz61_1 : w32.cell? ⟨gb333, 1, none⟩ = some (.int .i64 t331) := (blk_cell BK333.out 1).trans rfl; have hfz61_0 := blk_frozen BK333.out 0; have hfz61_1 := blk_frozen BK333.out 1; obtain ⟨Ao62, co62, eo62⟩ := Kd.R_slice HO337.out; subst eo62; obtain ⟨Ao63, co63, eo63⟩ := Kd.R_slice HO341.out; subst eo63) | (go_at_call 52; (with_reducible refine (laws_f6ints.calls k _ _ t334 _ _ t338 true _ ?side1 ?side2 ?side3 ?side4 A44.out).mono ?_); (case side1 => repeat (first | exact (Kd.R_reads' HO337.out).2.2 | (with_reducible refine Kd.C_alloc ?_ _) | (with_reducible refine Kd.C_drewN ?_ _) | (with_reducible refine Kd.C_drew ?_))); (case side2 => exact (Kd.R_reads' HO337.out).2.1); (case side3 => repeat (first | exact (Kd.R_reads' HO341.out).2.2 | (with_reducible refine Kd.C_alloc ?_ _) | (with_reducible refine Kd.C_drewN ?_ _) | (with_reducible refine Kd.C_drew ?_))); (case side4 => exact (Kd.R_reads' HO341.out).2.1); rintro e w' ⟨rfl, ⟨nd, rfl⟩⟩))
                    go_meet
                    case rel => exact ⟨_, (true), (by first | rfl | (simp; done) | (simp [*]; done)), H', ⟨by first | omega | exact Nat.le_refl _⟩, ⟨by (with_reducible repeat (first | apply Kd.R_alloc | apply Kd.R_drewN | apply Kd.R_drew)); exact Kd.R_mono HO312.out (fun _ hk => ⟨hk.1.1.1.1.1.2, ⟨hk.1.1.1.1.2, ⟨hk.1.1.2, hk.2⟩⟩⟩)⟩, ⟨by (with_reducible repeat (first | apply Kd.S_alloc | apply Kd.S_drewN | apply Kd.S_drew)); exact Kd.S_mono HO314.out (fun _ hk => ⟨hk.1.1.1.1.1.1.1, ⟨hk.1.1.1.1.1.2, ⟨hk.1.1.1.1.2, ⟨hk.1.1.2, hk.2⟩⟩⟩⟩)⟩, ⟨by (with_reducible repeat (first | apply Kd.R_alloc | apply Kd.R_drewN | apply Kd.R_drew)); exact Kd.R_mono HO322.out (fun _ hk => ⟨hk.1.1.1.1.1.1.2, ⟨hk.1.1.1.1.2, ⟨hk.1.1.2, hk.2⟩⟩⟩)⟩, ⟨by (with_reducible repeat (first | apply Kd.R_alloc | apply Kd.R_drewN | apply Kd.R_drew)); exact Kd.R_mono HO325.out (fun _ hk => ⟨hk.1.1.1.1.1.1.2, ⟨hk.1.1.1.1.2, ⟨hk.1.1.2, hk.2⟩⟩⟩)⟩, ⟨by (with_reducible repeat (first | apply Kd.R_alloc | apply Kd.R_drewN | apply Kd.R_drew)); exact Kd.R_mono HO341.out (fun _ hk => ⟨hk.1.1.1.1.1.1.2, ⟨hk.1.1.1.1.2, ⟨hk.1.1.1.2, hk.2⟩⟩⟩)⟩, ⟨by (with_reducible repeat (first | apply Kd.R_alloc | apply Kd.R_drewN | apply Kd.R_drew)); exact Kd.R_mono HO349.out (fun _ hk => ⟨hk.1.1.1.1.1.1.2, ⟨hk.1.1.1.1.2, ⟨hk.1.1.1.2, hk.1.2⟩⟩⟩)⟩, ⟨by (with_reducible repeat (first | refine blk_drewN ?_ _ | refine blk_drew ?_ | refine blk_alloc ?_ _)); exact BK329.out⟩, ⟨by (with_reducible repeat (first | refine blk_drewN ?_ _ | refine blk_drew ?_ | refine blk_alloc ?_ _)); exact BK333.out⟩, ⟨by repeat (first | (with_reducible first | exact HB.out | apply below_alloc | apply pw_below_drewN | apply below_drew1 | refine below_set ?_ GE329.out | refine below_set ?_ GE333.out) | exact HB.out)⟩⟩
                · replace c45 := Bool.eq_false_iff.mpr c45
                  subst c45
                  have H1 : (laws_FnCopiesUsed.j0 k t309 t310 t316 t319 t323 t328 t338 t343 t346 true t330 t331) = some r := by rw [if_neg (show ¬ (false = true) by decide)] at H; exact H
                  clear H
                  have H := H1
                  clear H1
                  have H' := Aside0.mk H
                  clear H
                  obtain ⟨Ao64, co64, eo64⟩ := Kd.R_slice HO318.out
                  subst eo64
                  obtain ⟨Ao65, co65, eo65⟩ := Kd.R_slice HO322.out
                  subst eo65
                  go_wp2_with (first | (go_at_call 52; (with_reducible refine (laws_f6ints.calls k _ _ t315 _ _ t319 true _ ?side1 ?side2 ?side3 ?side4 A34.out).mono ?_); (case side1 => repeat (first | exact (Kd.R_reads' HO318.out).2.2 | (with_reducible refine Kd.C_alloc ?_ _) | (with_reducible refine Kd.C_drewN ?_ _) | (with_reducible refine Kd.C_drew ?_))); (case side2 => exact (Kd.R_reads' HO318.out).2.1); (case side3 => repeat (first | exact (Kd.R_reads' HO322.out).2.2 | (with_reducible refine Kd.C_alloc ?_ _) | (with_reducible refine Kd.C_drewN ?_ _) | (with_reducible refine Kd.C_drew ?_))); (case side4 => exact (Kd.R_reads' HO322.out).2.1); rintro e w' ⟨rfl, ⟨nd, rfl⟩⟩; have hnb66 := NB329_333.out; have hnc66 := NB333_329.out; have hcz67_0 : w32.cell? ⟨gb329, 0, none⟩ = some (.int .i64 t326) := (blk_cell BK329.out 0).trans rfl; have hcz67_1 : w32.cell? ⟨gb329, 1, none⟩ = some (.int .i64 t327) := (blk_cell BK329.out 1).trans rfl; have hfz67_0 := blk_frozen BK329.out 0; have hfz67_1 := blk_frozen BK329.out 1; have hcz68_0 : w32.cell? ⟨gb333, 0, none⟩ = some (.int .i64 t330) := (blk_cell BK333.out 0).trans rfl; have hcz68_1 : w32.cell? ⟨gb333, 1, none⟩ = some (.int .i64 t331) := (blk_cell BK333.out 1).trans rfl; have hfz68_0 := blk_frozen BK333.out 0; have hfz68_1 := blk_frozen BK333.out 1; obtain ⟨Ao69, co69, eo69⟩ := Kd.R_slice HO337.out; subst eo69; obtain ⟨Ao70, co70, eo70⟩ := Kd.R_slice HO341.out; subst eo70) | (go_at_call 52; (with_reducible refine (laws_f6ints.calls k _ _ t334 _ _ t338 false _ ?side1 ?side2 ?side3 ?side4 A44.out).mono ?_); (case side1 => repeat (first | exact (Kd.R_reads' HO337.out).2.2 | (with_reducible refine Kd.C_alloc ?_ _) | (with_reducible refine Kd.C_drewN ?_ _) | (with_reducible refine Kd.C_drew ?_))); (case side2 => exact (Kd.R_reads' HO337.out).2.1); (case side3 => repeat (first | exact (Kd.R_reads' HO341.out).2.2 | (with_reducible refine Kd.C_alloc ?_ _) | (with_reducible refine Kd.C_drewN ?_ _) | (with_reducible refine Kd.C_drew ?_))); (case side4 => exact (Kd.R_reads' HO341.out).2.1); rintro e w' ⟨rfl, ⟨nd, rfl⟩⟩))
                  go_meet
                  case rel => exact ⟨_, (true), (by first | rfl | (simp; done) | (simp [*]; done)), H', ⟨by first | omega | exact Nat.le_refl _⟩, ⟨by (with_reducible repeat (first | apply Kd.R_alloc | apply Kd.R_drewN | apply Kd.R_drew)); exact Kd.R_mono HO312.out (fun _ hk => ⟨hk.1.1.1.1.1.2, ⟨hk.1.1.1.1.2, ⟨hk.1.1.2, hk.2⟩⟩⟩)⟩, ⟨by (with_reducible repeat (first | apply Kd.S_alloc | apply Kd.S_drewN | apply Kd.S_drew)); exact Kd.S_mono HO314.out (fun _ hk => ⟨hk.1.1.1.1.1.1.1, ⟨hk.1.1.1.1.1.2, ⟨hk.1.1.1.1.2, ⟨hk.1.1.2, hk.2⟩⟩⟩⟩)⟩, ⟨by (with_reducible repeat (first | apply Kd.R_alloc | apply Kd.R_drewN | apply Kd.R_drew)); exact Kd.R_mono HO322.out (fun _ hk => ⟨hk.1.1.1.1.1.1.2, ⟨hk.1.1.1.1.2, ⟨hk.1.1.2, hk.2⟩⟩⟩)⟩, ⟨by (with_reducible repeat (first | apply Kd.R_alloc | apply Kd.R_drewN | apply Kd.R_drew)); exact Kd.R_mono HO325.out (fun _ hk => ⟨hk.1.1.1.1.1.1.2, ⟨hk.1.1.1.1.2, ⟨hk.1.1.2, hk.2⟩⟩⟩)⟩, ⟨by (with_reducible repeat (first | apply Kd.R_alloc | apply Kd.R_drewN | apply Kd.R_drew)); exact Kd.R_mono HO341.out (fun _ hk => ⟨hk.1.1.1.1.1.1.2, ⟨hk.1.1.1.1.2, ⟨hk.1.1.1.2, hk.2⟩⟩⟩)⟩, ⟨by (with_reducible repeat (first | apply Kd.R_alloc | apply Kd.R_drewN | apply Kd.R_drew)); exact Kd.R_mono HO349.out (fun _ hk => ⟨hk.1.1.1.1.1.1.2, ⟨hk.1.1.1.1.2, ⟨hk.1.1.1.2, hk.1.2⟩⟩⟩)⟩, ⟨by (with_reducible repeat (first | refine blk_drewN ?_ _ | refine blk_drew ?_ | refine blk_alloc ?_ _)); exact BK329.out⟩, ⟨by (with_reducible repeat (first | refine blk_drewN ?_ _ | refine blk_drew ?_ | refine blk_alloc ?_ _)); exact BK333.out⟩, ⟨by repeat (first | (with_reducible first | exact HB.out | apply below_alloc | apply pw_below_drewN | apply below_drew1 | refine below_set ?_ GE329.out | refine below_set ?_ GE333.out) | exact HB.out)⟩⟩
              · rw [if_neg c43] at H
                have c43b0 : (t335 == t339) = false := beq_eq_false_iff_ne.mpr c43
                have c43b1 : (t335 != t339) = true := bne_iff_ne.mpr c43
                have H' := Aside0.mk H
                clear H
                obtain ⟨Ao71, co71, eo71⟩ := Kd.R_slice HO318.out
                subst eo71
                obtain ⟨Ao72, co72, eo72⟩ := Kd.R_slice HO322.out
                subst eo72
                go_wp2_with (first | (go_at_call 52; (with_reducible refine (laws_f6ints.calls k _ _ t315 _ _ t319 true _ ?side1 ?side2 ?side3 ?side4 A34.out).mono ?_); (case side1 => repeat (first | exact (Kd.R_reads' HO318.out).2.2 | (with_reducible refine Kd.C_alloc ?_ _) | (with_reducible refine Kd.C_drewN ?_ _) | (with_reducible refine Kd.C_drew ?_))); (case side2 => exact (Kd.R_reads' HO318.out).2.1); (case side3 => repeat (first | exact (Kd.R_reads' HO322.out).2.2 | (with_reducible refine Kd.C_alloc ?_ _) | (with_reducible refine Kd.C_drewN ?_ _) | (with_reducible refine Kd.C_drew ?_))); (case side4 => exact (Kd.R_reads' HO322.out).2.1); rintro e w' ⟨rfl, ⟨nd, rfl⟩⟩; have hnb73 := NB329_333.out; have hnc73 := NB333_329.out; have hcz74_0 : w32.cell? ⟨gb329, 0, none⟩ = some (.int .i64 t326) := (blk_cell BK329.out 0).trans rfl; have hcz74_1 : w32.cell? ⟨gb329, 1, none⟩ = some (.int .i64 t327) := (blk_cell BK329.out 1).trans rfl; have hfz74_0 := blk_frozen BK329.out 0; have hfz74_1 := blk_frozen BK329.out 1; have hcz75_0 : w32.cell? ⟨gb333, 0, none⟩ = some (.int .i64 t330) := (blk_cell BK333.out 0).trans rfl; have hcz75_1 : w32.cell? ⟨gb333, 1, none⟩ = some (.int .i64 t331) := (blk_cell BK333.out 1).trans rfl; have hfz75_0 := blk_frozen BK333.out 0; have hfz75_1 := blk_frozen BK333.out 1))
                go_meet
                case rel => exact ⟨_, (true), (by first | rfl | (simp; done) | (simp [*]; done)), H', ⟨by first | omega | exact Nat.le_refl _⟩, ⟨by (with_reducible repeat (first | apply Kd.R_alloc | apply Kd.R_drewN | apply Kd.R_drew)); exact Kd.R_mono HO312.out (fun _ hk => ⟨hk.1.1.1.1.1.2, ⟨hk.1.1.1.1.2, ⟨hk.1.1.2, hk.2⟩⟩⟩)⟩, ⟨by (with_reducible repeat (first | apply Kd.S_alloc | apply Kd.S_drewN | apply Kd.S_drew)); exact Kd.S_mono HO314.out (fun _ hk => ⟨hk.1.1.1.1.1.1.1, ⟨hk.1.1.1.1.1.2, ⟨hk.1.1.1.1.2, ⟨hk.1.1.2, hk.2⟩⟩⟩⟩)⟩, ⟨by (with_reducible repeat (first | apply Kd.R_alloc | apply Kd.R_drewN | apply Kd.R_drew)); exact Kd.R_mono HO322.out (fun _ hk => ⟨hk.1.1.1.1.1.1.2, ⟨hk.1.1.1.1.2, ⟨hk.1.1.2, hk.2⟩⟩⟩)⟩, ⟨by (with_reducible repeat (first | apply Kd.R_alloc | apply Kd.R_drewN | apply Kd.R_drew)); exact Kd.R_mono HO325.out (fun _ hk => ⟨hk.1.1.1.1.1.1.2, ⟨hk.1.1.1.1.2, ⟨hk.1.1.2, hk.2⟩⟩⟩)⟩, ⟨by (with_reducible repeat (first | apply Kd.R_alloc | apply Kd.R_drewN | apply Kd.R_drew)); exact Kd.R_mono HO341.out (fun _ hk => ⟨hk.1.1.1.1.1.1.2, ⟨hk.1.1.1.1.2, ⟨hk.1.1.1.2, hk.2⟩⟩⟩)⟩, ⟨by (with_reducible repeat (first | apply Kd.R_alloc | apply Kd.R_drewN | apply Kd.R_drew)); exact Kd.R_mono HO349.out (fun _ hk => ⟨hk.1.1.1.1.1.1.2, ⟨hk.1.1.1.1.2, ⟨hk.1.1.1.2, hk.1.2⟩⟩⟩)⟩, ⟨by (with_reducible repeat (first | refine blk_drewN ?_ _ | refine blk_drew ?_ | refine blk_alloc ?_ _)); exact BK329.out⟩, ⟨by (with_reducible repeat (first | refine blk_drewN ?_ _ | refine blk_drew ?_ | refine blk_alloc ?_ _)); exact BK333.out⟩, ⟨by repeat (first | (with_reducible first | exact HB.out | apply below_alloc | apply pw_below_drewN | apply below_drew1 | refine below_set ?_ GE329.out | refine below_set ?_ GE333.out) | exact HB.out)⟩⟩
          · rw [if_neg c36] at H
            have c36b0 : (t328 == t332) = false := beq_eq_false_iff_ne.mpr c36
            have c36b1 : (t328 != t332) = true := bne_iff_ne.mpr c36
            have H' := Aside0.mk H
            clear H
            obtain ⟨Ao76, co76, eo76⟩ := Kd.R_slice HO318.out
            subst eo76
            obtain ⟨Ao77, co77, eo77⟩ := Kd.R_slice HO322.out
            subst eo77
            go_wp2_with (first | (go_at_call 52; (with_reducible refine (laws_f6ints.calls k _ _ t315 _ _ t319 true _ ?side1 ?side2 ?side3 ?side4 A34.out).mono ?_); (case side1 => repeat (first | exact (Kd.R_reads' HO318.out).2.2 | (with_reducible refine Kd.C_alloc ?_ _) | (with_reducible refine Kd.C_drewN ?_ _) | (with_reducible refine Kd.C_drew ?_))); (case side2 => exact (Kd.R_reads' HO318.out).2.1); (case side3 => repeat (first | exact (Kd.R_reads' HO322.out).2.2 | (with_reducible refine Kd.C_alloc ?_ _) | (with_reducible refine Kd.C_drewN ?_ _) | (with_reducible refine Kd.C_drew ?_))); (case side4 => exact (Kd.R_reads' HO322.out).2.1); rintro e w' ⟨rfl, ⟨nd, rfl⟩⟩))
            go_meet
            case rel => exact ⟨_, (true), (by first | rfl | (simp; done) | (simp [*]; done)), H', ⟨by first | omega | exact Nat.le_refl _⟩, ⟨by (with_reducible repeat (first | apply Kd.R_alloc | apply Kd.R_drewN | apply Kd.R_drew)); exact Kd.R_mono HO312.out (fun _ hk => ⟨hk.1.1.1.1.1.2, ⟨hk.1.1.1.1.2, ⟨hk.1.1.2, hk.2⟩⟩⟩)⟩, ⟨by (with_reducible repeat (first | apply Kd.S_alloc | apply Kd.S_drewN | apply Kd.S_drew)); exact Kd.S_mono HO314.out (fun _ hk => ⟨hk.1.1.1.1.1.1.1, ⟨hk.1.1.1.1.1.2, ⟨hk.1.1.1.1.2, ⟨hk.1.1.2, hk.2⟩⟩⟩⟩)⟩, ⟨by (with_reducible repeat (first | apply Kd.R_alloc | apply Kd.R_drewN | apply Kd.R_drew)); exact Kd.R_mono HO322.out (fun _ hk => ⟨hk.1.1.1.1.1.1.2, ⟨hk.1.1.1.1.2, ⟨hk.1.1.2, hk.2⟩⟩⟩)⟩, ⟨by (with_reducible repeat (first | apply Kd.R_alloc | apply Kd.R_drewN | apply Kd.R_drew)); exact Kd.R_mono HO325.out (fun _ hk => ⟨hk.1.1.1.1.1.1.2, ⟨hk.1.1.1.1.2, ⟨hk.1.1.2, hk.2⟩⟩⟩)⟩, ⟨by (with_reducible repeat (first | apply Kd.R_alloc | apply Kd.R_drewN | apply Kd.R_drew)); exact Kd.R_mono HO341.out (fun _ hk => ⟨hk.1.1.1.1.1.1.2, ⟨hk.1.1.1.1.2, ⟨hk.1.1.1.2, hk.2⟩⟩⟩)⟩, ⟨by (with_reducible repeat (first | apply Kd.R_alloc | apply Kd.R_drewN | apply Kd.R_drew)); exact Kd.R_mono HO349.out (fun _ hk => ⟨hk.1.1.1.1.1.1.2, ⟨hk.1.1.1.1.2, ⟨hk.1.1.1.2, hk.1.2⟩⟩⟩)⟩, ⟨by (with_reducible repeat (first | refine blk_drewN ?_ _ | refine blk_drew ?_ | refine blk_alloc ?_ _)); exact BK329.out⟩, ⟨by (with_reducible repeat (first | refine blk_drewN ?_ _ | refine blk_drew ?_ | refine blk_alloc ?_ _)); exact BK333.out⟩, ⟨by repeat (first | (with_reducible first | exact HB.out | apply below_alloc | apply pw_below_drewN | apply below_drew1 | refine below_set ?_ GE329.out | refine below_set ?_ GE333.out) | exact HB.out)⟩⟩
        · replace c35 := Bool.eq_false_iff.mpr c35
          subst c35
          have H1 : (laws_FnCopiesUsed.j0 k t309 t310 t316 t319 t323 t328 t338 t343 t346 true t330 t331) = some r := by rw [if_neg (show ¬ (false = true) by decide)] at H; exact H
          clear H
          have H := H1
          clear H1
          have H' := Aside0.mk H
          clear H
          obtain ⟨Ao78, co78, eo78⟩ := Kd.R_slice HO318.out
          subst eo78
          obtain ⟨Ao79, co79, eo79⟩ := Kd.R_slice HO322.out
          subst eo79
          go_wp2_with (first | (go_at_call 52; (with_reducible refine (laws_f6ints.calls k _ _ t315 _ _ t319 false _ ?side1 ?side2 ?side3 ?side4 A34.out).mono ?_); (case side1 => repeat (first | exact (Kd.R_reads' HO318.out).2.2 | (with_reducible refine Kd.C_alloc ?_ _) | (with_reducible refine Kd.C_drewN ?_ _) | (with_reducible refine Kd.C_drew ?_))); (case side2 => exact (Kd.R_reads' HO318.out).2.1); (case side3 => repeat (first | exact (Kd.R_reads' HO322.out).2.2 | (with_reducible refine Kd.C_alloc ?_ _) | (with_reducible refine Kd.C_drewN ?_ _) | (with_reducible refine Kd.C_drew ?_))); (case side4 => exact (Kd.R_reads' HO322.out).2.1); rintro e w' ⟨rfl, ⟨nd, rfl⟩⟩))
          go_meet
          case rel => exact ⟨_, (true), (by first | rfl | (simp; done) | (simp [*]; done)), H', ⟨by first | omega | exact Nat.le_refl _⟩, ⟨by (with_reducible repeat (first | apply Kd.R_alloc | apply Kd.R_drewN | apply Kd.R_drew)); exact Kd.R_mono HO312.out (fun _ hk => ⟨hk.1.1.1.1.1.2, ⟨hk.1.1.1.1.2, ⟨hk.1.1.2, hk.2⟩⟩⟩)⟩, ⟨by (with_reducible repeat (first | apply Kd.S_alloc | apply Kd.S_drewN | apply Kd.S_drew)); exact Kd.S_mono HO314.out (fun _ hk => ⟨hk.1.1.1.1.1.1.1, ⟨hk.1.1.1.1.1.2, ⟨hk.1.1.1.1.2, ⟨hk.1.1.2, hk.2⟩⟩⟩⟩)⟩, ⟨by (with_reducible repeat (first | apply Kd.R_alloc | apply Kd.R_drewN | apply Kd.R_drew)); exact Kd.R_mono HO322.out (fun _ hk => ⟨hk.1.1.1.1.1.1.2, ⟨hk.1.1.1.1.2, ⟨hk.1.1.2, hk.2⟩⟩⟩)⟩, ⟨by (with_reducible repeat (first | apply Kd.R_alloc | apply Kd.R_drewN | apply Kd.R_drew)); exact Kd.R_mono HO325.out (fun _ hk => ⟨hk.1.1.1.1.1.1.2, ⟨hk.1.1.1.1.2, ⟨hk.1.1.2, hk.2⟩⟩⟩)⟩, ⟨by (with_reducible repeat (first | apply Kd.R_alloc | apply Kd.R_drewN | apply Kd.R_drew)); exact Kd.R_mono HO341.out (fun _ hk => ⟨hk.1.1.1.1.1.1.2, ⟨hk.1.1.1.1.2, ⟨hk.1.1.1.2, hk.2⟩⟩⟩)⟩, ⟨by (with_reducible repeat (first | apply Kd.R_alloc | apply Kd.R_drewN | apply Kd.R_drew)); exact Kd.R_mono HO349.out (fun _ hk => ⟨hk.1.1.1.1.1.1.2, ⟨hk.1.1.1.1.2, ⟨hk.1.1.1.2, hk.1.2⟩⟩⟩)⟩, ⟨by (with_reducible repeat (first | refine blk_drewN ?_ _ | refine blk_drew ?_ | refine blk_alloc ?_ _)); exact BK329.out⟩, ⟨by (with_reducible repeat (first | refine blk_drewN ?_ _ | refine blk_drew ?_ | refine blk_alloc ?_ _)); exact BK333.out⟩, ⟨by repeat (first | (with_reducible first | exact HB.out | apply below_alloc | apply pw_below_drewN | apply below_drew1 | refine below_set ?_ GE329.out | refine below_set ?_ GE333.out) | exact HB.out)⟩⟩
      · rw [if_neg c33] at H
        have c33b0 : (t316 == t320) = false := beq_eq_false_iff_ne.mpr c33
        have c33b1 : (t316 != t320) = true := bne_iff_ne.mpr c33
        (first | rw [c33b0] | (simp only [i64_w, i32_w]; rw [c33b0]) | skip)
        have H' := Aside0.mk H
        clear H
        go_wp2
        go_meet
        case rel => exact ⟨_, (true), (by first | rfl | (simp; done) | (simp [*]; done)), H', ⟨by first | omega | exact Nat.le_refl _⟩, ⟨by (with_reducible repeat (first | apply Kd.R_alloc | apply Kd.R_drewN | apply Kd.R_drew)); exact Kd.R_mono HO312.out (fun _ hk => ⟨hk.1.1.1.1.1.2, ⟨hk.1.1.1.1.2, ⟨hk.1.1.2, hk.2⟩⟩⟩)⟩, ⟨by (with_reducible repeat (first | apply Kd.S_alloc | apply Kd.S_drewN | apply Kd.S_drew)); exact Kd.S_mono HO314.out (fun _ hk => ⟨hk.1.1.1.1.1.1.1, ⟨hk.1.1.1.1.1.2, ⟨hk.1.1.1.1.2, ⟨hk.1.1.2, hk.2⟩⟩⟩⟩)⟩, ⟨by (with_reducible repeat (first | apply Kd.R_alloc | apply Kd.R_drewN | apply Kd.R_drew)); exact Kd.R_mono HO322.out (fun _ hk => ⟨hk.1.1.1.1.1.1.2, ⟨hk.1.1.1.1.2, ⟨hk.1.1.2, hk.2⟩⟩⟩)⟩, ⟨by (with_reducible repeat (first | apply Kd.R_alloc | apply Kd.R_drewN | apply Kd.R_drew)); exact Kd.R_mono HO325.out (fun _ hk => ⟨hk.1.1.1.1.1.1.2, ⟨hk.1.1.1.1.2, ⟨hk.1.1.2, hk.2⟩⟩⟩)⟩, ⟨by (with_reducible repeat (first | apply Kd.R_alloc | apply Kd.R_drewN | apply Kd.R_drew)); exact Kd.R_mono HO341.out (fun _ hk => ⟨hk.1.1.1.1.1.1.2, ⟨hk.1.1.1.1.2, ⟨hk.1.1.1.2, hk.2⟩⟩⟩)⟩, ⟨by (with_reducible repeat (first | apply Kd.R_alloc | apply Kd.R_drewN | apply Kd.R_drew)); exact Kd.R_mono HO349.out (fun _ hk => ⟨hk.1.1.1.1.1.1.2, ⟨hk.1.1.1.1.2, ⟨hk.1.1.1.2, hk.1.2⟩⟩⟩)⟩, ⟨by (with_reducible repeat (first | refine blk_drewN ?_ _ | refine blk_drew ?_ | refine blk_alloc ?_ _)); exact BK329.out⟩, ⟨by (with_reducible repeat (first | refine blk_drewN ?_ _ | refine blk_drew ?_ | refine blk_alloc ?_ _)); exact BK333.out⟩, ⟨by repeat (first | (with_reducible first | exact HB.out | apply below_alloc | apply pw_below_drewN | apply below_drew1 | refine below_set ?_ GE329.out | refine below_set ?_ GE333.out) | exact HB.out)⟩⟩
    case rest =>
      clear HC14
      try clear c1
      try clear c2
      try clear p2
      try clear c3
      try clear c4
      try clear c5
      try clear c6
      try clear c7
      try clear c13
      try clear c21
      try clear c22
      try clear c25
      try clear c26
      try clear c27
      try clear c29
      try clear c30
      try clear c33
      try clear c33b0
      try clear c33b1
      try clear c35
      try clear c36
      try clear c36b0
      try clear c36b1
      try clear c37
      try clear c37b0
      try clear c40
      try clear c43
      try clear c43b0
      try clear c43b1
      try clear c45
      try clear c46
      try clear c46b0
      try clear c46b1
      try clear c47
      try clear c48
      try clear c49
      try clear c50
      try clear c51
      try clear c59
      try clear c66
      try clear c73
      try clear hcz24_0
      try clear hcz24_1
      try clear hcz28_0
      try clear hcz28_1
      try clear hcz41_0
      try clear hcz41_1
      try clear hcz42_0
      try clear hcz42_1
      try clear hcz51_0
      try clear hcz51_1
      try clear hcz52_0
      try clear hcz52_1
      try clear hcz60_0
      try clear hcz60_1
      try clear hcz61_0
      try clear hcz61_1
      try clear hcz67_0
      try clear hcz67_1
      try clear hcz68_0
      try clear hcz68_1
      try clear hcz74_0
      try clear hcz74_1
      try clear hcz75_0
      try clear hcz75_1
      try clear hfz24_0
      try clear hfz24_1
      try clear hfz28_0
      try clear hfz28_1
      try clear hfz41_0
      try clear hfz41_1
      try clear hfz42_0
      try clear hfz42_1
      try clear hfz51_0
      try clear hfz51_1
      try clear hfz52_0
      try clear hfz52_1
      try clear hfz60_0
      try clear hfz60_1
      try clear hfz61_0
      try clear hfz61_1
      try clear hfz67_0
      try clear hfz67_1
      try clear hfz68_0
      try clear hfz68_1
      try clear hfz74_0
      try clear hfz74_1
      try clear hfz75_0
      try clear hfz75_1
      obtain ⟨kq, x117_13, rfl, HA, HJ13, HO_3, HO_4, HO_7, HO_9, HO_16, HO_20, BK329, BK333, HB⟩ := hcut
      cases kq with
      | zero => exact absurd HA.out (by simp [laws_FnCopiesUsed.j0])
      | succ kj13 =>
        have H := HA.out
        clear HA
        simp only [laws_FnCopiesUsed.j0] at H
        by_cases c80 : x117_13 = true
        · subst c80
          have H1 : (some false) = some r := by rw [if_pos rfl] at H; exact H
          clear H
          have H := H1
          clear H1
          obtain rfl := Option.some.inj H
          go_wp2
          go_ret
          exact ⟨by first | rfl | (simp [errW_none, errW_some] <;> rfl) | (simp [*, errW_none, errW_some] <;> rfl), by repeat (first | (with_reducible first | exact HB.out | apply below_alloc | apply pw_below_drewN | apply below_drew1 | refine below_set ?_ GE329.out | refine below_set ?_ GE333.out) | exact HB.out)⟩
        · replace c80 := Bool.eq_false_iff.mpr c80
          subst c80
          have H1 : (if t328 = 0 then (laws_FnCopiesUsed.j1 kj13 t309 t310 t316 t319 t323 t338 t343 t346 ((wrap64 (t330 * (t323.length : Int))) != (wrap64 ((t338.length : Int) * t331)))) else (laws_FnCopiesUsed.j1 kj13 t309 t310 t316 t319 t323 t338 t343 t346 false)) = some r := by rw [if_neg (show ¬ (false = true) by decide)] at H; exact H
          clear H
          have H := H1
          clear H1
          have HC81 := Aside0.mk H
          clear H
          go_upto_region 15 with (fail)
          go_cut [132] (fun v132 wc => ∃ (kq : Nat) (x132_80 : Bool), v132 = .bool x132_80 ∧ Aside0 (laws_FnCopiesUsed.j1 kq t309 t310 t316 t319 t323 t338 t343 t346 x132_80 = some r) ∧ Aside0 (kq ≤ kj13) ∧ Aside0 (Kd.R (Kd.int .i64) 2 wc w.heap.size (fun k_ => some k_ ≠ (v321 : Value).ownBlock ∧ some k_ ≠ ((.slice Ao21 t323.length co21) : Value).ownBlock ∧ some k_ ≠ (v340 : Value).ownBlock ∧ some k_ ≠ (v348 : Value).ownBlock) (.slice Ao16 t309.length co16) t309) ∧ Aside0 (Kd.S (Kd.slice 2 (Kd.int .i64)) 22 wc w.heap.size (fun k_ => some k_ ≠ ((.slice Ao16 t309.length co16) : Value).ownBlock ∧ some k_ ≠ (v321 : Value).ownBlock ∧ some k_ ≠ ((.slice Ao21 t323.length co21) : Value).ownBlock ∧ some k_ ≠ (v340 : Value).ownBlock ∧ some k_ ≠ (v348 : Value).ownBlock) (.slice Ao17 t310.length co17) t310) ∧ Aside0 (Kd.R (Kd.int .i64) 2 wc w.heap.size (fun k_ => some k_ ≠ ((.slice Ao16 t309.length co16) : Value).ownBlock ∧ some k_ ≠ ((.slice Ao21 t323.length co21) : Value).ownBlock ∧ some k_ ≠ (v340 : Value).ownBlock ∧ some k_ ≠ (v348 : Value).ownBlock) v321 t319) ∧ Aside0 (Kd.R (Kd.int .i64) 2 wc w.heap.size (fun k_ => some k_ ≠ ((.slice Ao16 t309.length co16) : Value).ownBlock ∧ some k_ ≠ (v321 : Value).ownBlock ∧ some k_ ≠ (v340 : Value).ownBlock ∧ some k_ ≠ (v348 : Value).ownBlock) (.slice Ao21 t323.length co21) t323) ∧ Aside0 (Kd.R (Kd.int .i64) 2 wc w.heap.size (fun k_ => some k_ ≠ ((.slice Ao16 t309.length co16) : Value).ownBlock ∧ some k_ ≠ (v321 : Value).ownBlock ∧ some k_ ≠ ((.slice Ao21 t323.length co21) : Value).ownBlock ∧ some k_ ≠ (v348 : Value).ownBlock) v340 t338) ∧ Aside0 (Kd.R (Kd.int .i64) 2 wc w.heap.size (fun k_ => some k_ ≠ ((.slice Ao16 t309.length co16) : Value).ownBlock ∧ some k_ ≠ (v321 : Value).ownBlock ∧ some k_ ≠ ((.slice Ao21 t323.length co21) : Value).ownBlock ∧ some k_ ≠ (v340 : Value).ownBlock) v348 t346) ∧ Aside0 (wc.heap[gb329]? = some (.cells #[.int .i64 t326, .int .i64 t327] 34 (0, 0))) ∧ Aside0 (wc.heap[gb333]? = some (.cells #[.int .i64 t330, .int .i64 t331] 34 (0, 0))) ∧ Aside0 (Below w.heap.size w wc))
          case first =>
            have H := HC81.out
            clear HC81
            by_cases c82 : t328 = 0
            · rw [if_pos c82] at H
              have c82b0 : (t328 == 0) = true := beq_iff_eq.mpr c82
              have c82b1 : (t328 != 0) = false := bne_eq_false_iff_eq.mpr c82
              clear c82
              (first | rw [c82b0] | (simp only [i64_w, i32_w]; rw [c82b0]) | skip)
              have H' := Aside0.mk H
              clear H
              have hnb83 := NB333_329.out
              have hnc83 := NB329_333.out
              have hcz84_0 : wc.cell? ⟨gb333, 0, none⟩ = some (.int .i64 t330) := (blk_cell BK333.out 0).trans rfl
              have hcz84_1 : wc.cell? ⟨gb333, 1, none⟩ = some (.int .i64 t331) := (blk_cell BK333.out 1).trans rfl
              have hfz84_0 := blk_frozen BK333.out 0
              have hfz84_1 := blk_frozen BK333.out 1
              obtain ⟨Ao85, co85, eo85⟩ := Kd.R_slice HO_16.out
              subst eo85
              go_wp2
              go_meet
              case rel => exact ⟨_, (((wrap64 (t330 * (t323.length : Int))) != (wrap64 ((t338.length : Int) * t331)))), (by first | rfl | (simp; done) | (simp [*]; done)), H', ⟨by have := HJ13.out; first | omega | exact Nat.le_refl _⟩, ⟨by (with_reducible repeat (first | apply Kd.R_alloc | apply Kd.R_drewN | apply Kd.R_drew)); exact HO_3.out⟩, ⟨by (with_reducible repeat (first | apply Kd.S_alloc | apply Kd.S_drewN | apply Kd.S_drew)); exact HO_4.out⟩, ⟨by (with_reducible repeat (first | apply Kd.R_alloc | apply Kd.R_drewN | apply Kd.R_drew)); exact HO_7.out⟩, ⟨by (with_reducible repeat (first | apply Kd.R_alloc | apply Kd.R_drewN | apply Kd.R_drew)); exact HO_9.out⟩, ⟨by (with_reducible repeat (first | apply Kd.R_alloc | apply Kd.R_drewN | apply Kd.R_drew)); exact HO_16.out⟩, ⟨by (with_reducible repeat (first | apply Kd.R_alloc | apply Kd.R_drewN | apply Kd.R_drew)); exact HO_20.out⟩, ⟨by (with_reducible repeat (first | refine blk_drewN ?_ _ | refine blk_drew ?_ | refine blk_alloc ?_ _)); exact BK329.out⟩, ⟨by (with_reducible repeat (first | refine blk_drewN ?_ _ | refine blk_drew ?_ | refine blk_alloc ?_ _)); exact BK333.out⟩, ⟨by repeat (first | (with_reducible first | exact HB.out | apply below_alloc | apply pw_below_drewN | apply below_drew1 | refine below_set ?_ GE329.out | refine below_set ?_ GE333.out) | exact HB.out)⟩⟩
            · rw [if_neg c82] at H
              have c82b0 : (t328 == 0) = false := beq_eq_false_iff_ne.mpr c82
              have c82b1 : (t328 != 0) = true := bne_iff_ne.mpr c82
              (first | rw [c82b0] | (simp only [i64_w, i32_w]; rw [c82b0]) | skip)
              have H' := Aside0.mk H
              clear H
              go_wp2
              go_meet
              case rel => exact ⟨_, (false), (by first | rfl | (simp; done) | (simp [*]; done)), H', ⟨by have := HJ13.out; first | omega | exact Nat.le_refl _⟩, ⟨by (with_reducible repeat (first | apply Kd.R_alloc | apply Kd.R_drewN | apply Kd.R_drew)); exact HO_3.out⟩, ⟨by (with_reducible repeat (first | apply Kd.S_alloc | apply Kd.S_drewN | apply Kd.S_drew)); exact HO_4.out⟩, ⟨by (with_reducible repeat (first | apply Kd.R_alloc | apply Kd.R_drewN | apply Kd.R_drew)); exact HO_7.out⟩, ⟨by (with_reducible repeat (first | apply Kd.R_alloc | apply Kd.R_drewN | apply Kd.R_drew)); exact HO_9.out⟩, ⟨by (with_reducible repeat (first | apply Kd.R_alloc | apply Kd.R_drewN | apply Kd.R_drew)); exact HO_16.out⟩, ⟨by (with_reducible repeat (first | apply Kd.R_alloc | apply Kd.R_drewN | apply Kd.R_drew)); exact HO_20.out⟩, ⟨by (with_reducible repeat (first | refine blk_drewN ?_ _ | refine blk_drew ?_ | refine blk_alloc ?_ _)); exact BK329.out⟩, ⟨by (with_reducible repeat (first | refine blk_drewN ?_ _ | refine blk_drew ?_ | refine blk_alloc ?_ _)); exact BK333.out⟩, ⟨by repeat (first | (with_reducible first | exact HB.out | apply below_alloc | apply pw_below_drewN | apply below_drew1 | refine below_set ?_ GE329.out | refine below_set ?_ GE333.out) | exact HB.out)⟩⟩
          case rest =>
            clear HC81
            try clear c1
            try clear c2
            try clear p2
            try clear c3
            try clear c4
            try clear c5
            try clear c6
            try clear p6
            try clear c7
            try clear c8
            try clear c13
            try clear c21
            try clear c22
            try clear c25
            try clear c26
            try clear c27
            try clear c29
            try clear c30
            try clear c33
            try clear c33b0
            try clear c33b1
            try clear c35
            try clear c36
            try clear c36b0
            try clear c36b1
            try clear c37
            try clear c37b0
            try clear c40
            try clear c43
            try clear c43b0
            try clear c43b1
            try clear c45
            try clear c46
            try clear c46b0
            try clear c46b1
            try clear c47
            try clear c48
            try clear c49
            try clear c50
            try clear c51
            try clear c59
            try clear p64
            try clear c66
            try clear c73
            try clear c80
            try clear c82
            try clear c82b0
            try clear c82b1
            try clear c83
            try clear hcz24_0
            try clear hcz24_1
            try clear hcz28_0
            try clear hcz28_1
            try clear hcz41_0
            try clear hcz41_1
            try clear hcz42_0
            try clear hcz42_1
            try clear hcz51_0
            try clear hcz51_1
            try clear hcz52_0
            try clear hcz52_1
            try clear hcz60_0
            try clear hcz60_1
            try clear hcz61_0
            try clear hcz61_1
            try clear hcz67_0
            try clear hcz67_1
            try clear hcz68_0
            try clear hcz68_1
            try clear hcz74_0
            try clear hcz74_1
            try clear hcz75_0
            try clear hcz75_1
            try clear hcz84_0
            try clear hcz84_1
            try clear hfz24_0
            try clear hfz24_1
            try clear hfz28_0
            try clear hfz28_1
            try clear hfz41_0
            try clear hfz41_1
            try clear hfz42_0
            try clear hfz42_1
            try clear hfz51_0
            try clear hfz51_1
            try clear hfz52_0
            try clear hfz52_1
            try clear hfz60_0
            try clear hfz60_1
            try clear hfz61_0
            try clear hfz61_1
            try clear hfz67_0
            try clear hfz67_1
            try clear hfz68_0
            try clear hfz68_1
            try clear hfz74_0
            try clear hfz74_1
            try clear hfz75_0
            try clear hfz75_1
            try clear hfz84_0
            try clear hfz84_1
            try clear p2
            obtain ⟨kq, x132_80, rfl, HA, HJ80, HO_3, HO_4, HO_7, HO_9, HO_16, HO_20, BK329, BK333, HB⟩ := hcut
            cases kq with
            | zero => exact absurd HA.out (by simp [laws_FnCopiesUsed.j1])
            | succ kj80 =>
              have H := HA.out
              clear HA
              simp only [laws_FnCopiesUsed.j1] at H
              by_cases c86 : x132_80 = true
              · subst c86
                have H1 : (some false) = some r := by rw [if_pos rfl] at H; exact H
                clear H
                have H := H1
                clear H1
                obtain rfl := Option.some.inj H
                go_wp2
                go_ret
                exact ⟨by first | rfl | (simp [errW_none, errW_some] <;> rfl) | (simp [*, errW_none, errW_some] <;> rfl), by repeat (first | (with_reducible first | exact HB.out | apply below_alloc | apply pw_below_drewN | apply below_drew1 | refine below_set ?_ GE329.out | refine below_set ?_ GE333.out) | exact HB.out)⟩
              · replace c86 := Bool.eq_false_iff.mpr c86
                subst c86
                have H1 : (if t343 = 0 then ((laws_f6sum.f kj80 t346).bind fun t353 => (laws_FnCopiesUsed.j2 kj80 t309 t310 t316 t319 t323 t338 (t353 != (t323.length : Int)))) else (laws_FnCopiesUsed.j2 kj80 t309 t310 t316 t319 t323 t338 false)) = some r := by rw [if_neg (show ¬ (false = true) by decide)] at H; exact H
                clear H
                have H := H1
                clear H1
                have HC87 := Aside0.mk H
                clear H
                go_upto_region 17 with (fail)
                go_cut [141] (fun v141 wc => ∃ (kq : Nat) (x141_86 : Bool), v141 = .bool x141_86 ∧ Aside0 (laws_FnCopiesUsed.j2 kq t309 t310 t316 t319 t323 t338 x141_86 = some r) ∧ Aside0 (kq ≤ kj80) ∧ Aside0 (Kd.R (Kd.int .i64) 2 wc w.heap.size (fun k_ => some k_ ≠ (v321 : Value).ownBlock ∧ some k_ ≠ ((.slice Ao21 t323.length co21) : Value).ownBlock ∧ some k_ ≠ (v340 : Value).ownBlock) (.slice Ao16 t309.length co16) t309) ∧ Aside0 (Kd.S (Kd.slice 2 (Kd.int .i64)) 22 wc w.heap.size (fun k_ => some k_ ≠ ((.slice Ao16 t309.length co16) : Value).ownBlock ∧ some k_ ≠ (v321 : Value).ownBlock ∧ some k_ ≠ ((.slice Ao21 t323.length co21) : Value).ownBlock ∧ some k_ ≠ (v340 : Value).ownBlock) (.slice Ao17 t310.length co17) t310) ∧ Aside0 (Kd.R (Kd.int .i64) 2 wc w.heap.size (fun k_ => some k_ ≠ ((.slice Ao16 t309.length co16) : Value).ownBlock ∧ some k_ ≠ ((.slice Ao21 t323.length co21) : Value).ownBlock ∧ some k_ ≠ (v340 : Value).ownBlock) v321 t319) ∧ Aside0 (Kd.R (Kd.int .i64) 2 wc w.heap.size (fun k_ => some k_ ≠ ((.slice Ao16 t309.length co16) : Value).ownBlock ∧ some k_ ≠ (v321 : Value).ownBlock ∧ some k_ ≠ (v340 : Value).ownBlock) (.slice Ao21 t323.length co21) t323) ∧ Aside0 (Kd.R (Kd.int .i64) 2 wc w.heap.size (fun k_ => some k_ ≠ ((.slice Ao16 t309.length co16) : Value).ownBlock ∧ some k_ ≠ (v321 : Value).ownBlock ∧ some k_ ≠ ((.slice Ao21 t323.length co21) : Value).ownBlock) v340 t338) ∧ Aside0 (wc.heap[gb329]? = some (.cells #[.int .i64 t326, .int .i64 t327] 34 (0, 0))) ∧ Aside0 (wc.heap[gb333]? = some (.cells #[.int .i64 t330, .int .i64 t331] 34 (0, 0))) ∧ Aside0 (Below w.heap.size w wc))
                case first =>
                  have H := HC87.out
                  clear HC87
                  by_cases c88 : t343 = 0
                  · rw [if_pos c88] at H
                    have c88b0 : (t343 == 0) = true := beq_iff_eq.mpr c88
                    have c88b1 : (t343 != 0) = false := bne_eq_false_iff_eq.mpr c88
                    clear c88
                    (first | rw [c88b0] | (simp only [i64_w, i32_w]; rw [c88b0]) | skip)
                    replace H := Option.bind_eq_some_iff.mp H
                    obtain ⟨t353, A890, H⟩ := H
                    replace H : (laws_FnCopiesUsed.j2 kj80 t309 t310 t316 t319 t323 t338 (t353 != (t323.length : Int))) = some r := H
                    have A89 := Aside0.mk A890
                    clear A890
                    have H' := Aside0.mk H
                    clear H
                    obtain ⟨Ao90, co90, eo90⟩ := Kd.R_slice HO_20.out
                    subst eo90
                    go_wp2_with (first | (go_at_call 53; (with_reducible refine (laws_f6sum.calls kj80 _ _ t346 t353 _ ?side1 ?side2 A89.out).mono ?_); (case side1 => repeat (first | exact (Kd.R_reads' HO_20.out).2.2 | (with_reducible refine Kd.C_alloc ?_ _) | (with_reducible refine Kd.C_drewN ?_ _) | (with_reducible refine Kd.C_drew ?_))); (case side2 => exact (Kd.R_reads' HO_20.out).2.1); rintro e w' ⟨rfl, ⟨nd, rfl⟩⟩))
                    go_meet
                    case rel => exact ⟨_, ((t353 != (t323.length : Int))), (by first | rfl | (simp; done) | (simp [*]; done)), H', ⟨by have := HJ13.out; have := HJ80.out; first | omega | exact Nat.le_refl _⟩, ⟨by (with_reducible repeat (first | apply Kd.R_alloc | apply Kd.R_drewN | apply Kd.R_drew)); exact Kd.R_mono HO_3.out (fun _ hk => ⟨hk.1, ⟨hk.2.1, hk.2.2.1⟩⟩)⟩, ⟨by (with_reducible repeat (first | apply Kd.S_alloc | apply Kd.S_drewN | apply Kd.S_drew)); exact Kd.S_mono HO_4.out (fun _ hk => ⟨hk.1, ⟨hk.2.1, ⟨hk.2.2.1, hk.2.2.2.1⟩⟩⟩)⟩, ⟨by (with_reducible repeat (first | apply Kd.R_alloc | apply Kd.R_drewN | apply Kd.R_drew)); exact Kd.R_mono HO_7.out (fun _ hk => ⟨hk.1, ⟨hk.2.1, hk.2.2.1⟩⟩)⟩, ⟨by (with_reducible repeat (first | apply Kd.R_alloc | apply Kd.R_drewN | apply Kd.R_drew)); exact Kd.R_mono HO_9.out (fun _ hk => ⟨hk.1, ⟨hk.2.1, hk.2.2.1⟩⟩)⟩, ⟨by (with_reducible repeat (first | apply Kd.R_alloc | apply Kd.R_drewN | apply Kd.R_drew)); exact Kd.R_mono HO_16.out (fun _ hk => ⟨hk.1, ⟨hk.2.1, hk.2.2.1⟩⟩)⟩, ⟨by (with_reducible repeat (first | refine blk_drewN ?_ _ | refine blk_drew ?_ | refine blk_alloc ?_ _)); exact BK329.out⟩, ⟨by (with_reducible repeat (first | refine blk_drewN ?_ _ | refine blk_drew ?_ | refine blk_alloc ?_ _)); exact BK333.out⟩, ⟨by repeat (first | (with_reducible first | exact HB.out | apply below_alloc | apply pw_below_drewN | apply below_drew1 | refine below_set ?_ GE329.out | refine below_set ?_ GE333.out) | exact HB.out)⟩⟩
                  · rw [if_neg c88] at H
                    have c88b0 : (t343 == 0) = false := beq_eq_false_iff_ne.mpr c88
                    have c88b1 : (t343 != 0) = true := bne_iff_ne.mpr c88
                    (first | rw [c88b0] | (simp only [i64_w, i32_w]; rw [c88b0]) | skip)
                    have H' := Aside0.mk H
                    clear H
                    go_wp2
                    go_meet
                    case rel => exact ⟨_, (false), (by first | rfl | (simp; done) | (simp [*]; done)), H', ⟨by have := HJ13.out; have := HJ80.out; first | omega | exact Nat.le_refl _⟩, ⟨by (with_reducible repeat (first | apply Kd.R_alloc | apply Kd.R_drewN | apply Kd.R_drew)); exact Kd.R_mono HO_3.out (fun _ hk => ⟨hk.1, ⟨hk.2.1, hk.2.2.1⟩⟩)⟩, ⟨by (with_reducible repeat (first | apply Kd.S_alloc | apply Kd.S_drewN | apply Kd.S_drew)); exact Kd.S_mono HO_4.out (fun _ hk => ⟨hk.1, ⟨hk.2.1, ⟨hk.2.2.1, hk.2.2.2.1⟩⟩⟩)⟩, ⟨by (with_reducible repeat (first | apply Kd.R_alloc | apply Kd.R_drewN | apply Kd.R_drew)); exact Kd.R_mono HO_7.out (fun _ hk => ⟨hk.1, ⟨hk.2.1, hk.2.2.1⟩⟩)⟩, ⟨by (with_reducible repeat (first | apply Kd.R_alloc | apply Kd.R_drewN | apply Kd.R_drew)); exact Kd.R_mono HO_9.out (fun _ hk => ⟨hk.1, ⟨hk.2.1, hk.2.2.1⟩⟩)⟩, ⟨by (with_reducible repeat (first | apply Kd.R_alloc | apply Kd.R_drewN | apply Kd.R_drew)); exact Kd.R_mono HO_16.out (fun _ hk => ⟨hk.1, ⟨hk.2.1, hk.2.2.1⟩⟩)⟩, ⟨by (with_reducible repeat (first | refine blk_drewN ?_ _ | refine blk_drew ?_ | refine blk_alloc ?_ _)); exact BK329.out⟩, ⟨by (with_reducible repeat (first | refine blk_drewN ?_ _ | refine blk_drew ?_ | refine blk_alloc ?_ _)); exact BK333.out⟩, ⟨by repeat (first | (with_reducible first | exact HB.out | apply below_alloc | apply pw_below_drewN | apply below_drew1 | refine below_set ?_ GE329.out | refine below_set ?_ GE333.out) | exact HB.out)⟩⟩
                case rest =>
                  clear HC87
                  try clear c1
                  try clear c2
                  try clear p2
                  try clear c3
                  try clear c4
                  try clear c5
                  try clear c6
                  try clear p6
                  try clear c7
                  try clear c8
                  try clear c13
                  try clear c21
                  try clear c22
                  try clear c25
                  try clear c26
                  try clear c27
                  try clear c29
                  try clear c30
                  try clear c33
                  try clear c33b0
                  try clear c33b1
                  try clear c35
                  try clear c36
                  try clear c36b0
                  try clear c36b1
                  try clear c37
                  try clear c37b0
                  try clear c40
                  try clear c43
                  try clear c43b0
                  try clear c43b1
                  try clear c45
                  try clear c46
                  try clear c46b0
                  try clear c46b1
                  try clear c47
                  try clear c48
                  try clear c49
                  try clear c50
                  try clear c51
                  try clear c59
                  try clear p64
                  try clear c66
                  try clear c73
                  try clear c80
                  try clear c82
                  try clear c82b0
                  try clear c82b1
                  try clear c83
                  try clear c86
                  try clear c88
                  try clear c88b0
                  try clear c88b1
                  try clear hcz24_0
                  try clear hcz24_1
                  try clear hcz28_0
                  try clear hcz28_1
                  try clear hcz41_0
                  try clear hcz41_1
                  try clear hcz42_0
                  try clear hcz42_1
                  try clear hcz51_0
                  try clear hcz51_1
                  try clear hcz52_0
                  try clear hcz52_1
                  try clear hcz60_0
                  try clear hcz60_1
                  try clear hcz61_0
                  try clear hcz61_1
                  try clear hcz67_0
                  try clear hcz67_1
                  try clear hcz68_0
                  try clear hcz68_1
                  try clear hcz74_0
                  try clear hcz74_1
                  try clear hcz75_0
                  try clear hcz75_1
                  try clear hcz84_0
                  try clear hcz84_1
                  try clear hfz24_0
                  try clear hfz24_1
                  try clear hfz28_0
                  try clear hfz28_1
                  try clear hfz41_0
                  try clear hfz41_1
                  try clear hfz42_0
                  try clear hfz42_1
                  try clear hfz51_0
                  try clear hfz51_1
                  try clear hfz52_0
                  try clear hfz52_1
                  try clear hfz60_0
                  try clear hfz60_1
                  try clear hfz61_0
                  try clear hfz61_1
                  try clear hfz67_0
                  try clear hfz67_1
                  try clear hfz68_0
                  try clear hfz68_1
                  try clear hfz74_0
                  try clear hfz74_1
                  try clear hfz75_0
                  try clear hfz75_1
                  try clear hfz84_0
                  try clear hfz84_1
                  try clear p2
                  try clear p6
                  try clear p64
                  obtain ⟨kq, x141_86, rfl, HA, HJ86, HO_3, HO_4, HO_7, HO_9, HO_16, BK329, BK333, HB⟩ := hcut
                  cases kq with
                  | zero => exact absurd HA.out (by simp [laws_FnCopiesUsed.j2])
                  | succ kj86 =>
                    have H := HA.out
                    clear HA
                    simp only [laws_FnCopiesUsed.j2] at H
                    by_cases c91 : x141_86 = true
                    · subst c91
                      have H1 : (some false) = some r := by rw [if_pos rfl] at H; exact H
                      clear H
                      have H := H1
                      clear H1
                      obtain rfl := Option.some.inj H
                      go_wp2
                      go_ret
                      exact ⟨by first | rfl | (simp [errW_none, errW_some] <;> rfl) | (simp [*, errW_none, errW_some] <;> rfl), by repeat (first | (with_reducible first | exact HB.out | apply below_alloc | apply pw_below_drewN | apply below_drew1 | refine below_set ?_ GE329.out | refine below_set ?_ GE333.out) | exact HB.out)⟩
                    · replace c91 := Bool.eq_false_iff.mpr c91
                      subst c91
                      have H1 : (laws_FnCopiesUsed.l0 kj86 t309 t310 t316 t319 t323 t338 0) = some r := by rw [if_neg (show ¬ (false = true) by decide)] at H; exact H
                      clear H
                      have H := H1
                      clear H1
                      have H' := Aside0.mk H
                      clear H
                      go_wp2
                      go_loopg [22] kj86 (fun kq v22 w' => ∃ (x22_4 : Int), v22 = .int .i64 x22_4 ∧ Aside0 (laws_FnCopiesUsed.l0 kq t309 t310 t316 t319 t323 t338 x22_4 = some r) ∧ Aside0 (kq ≤ kj86) ∧ Aside0 (Kd.R (Kd.int .i64) 2 w' w.heap.size (fun k_ => some k_ ≠ (v321 : Value).ownBlock ∧ some k_ ≠ ((.slice Ao21 t323.length co21) : Value).ownBlock ∧ some k_ ≠ (v340 : Value).ownBlock) (.slice Ao16 t309.length co16) t309) ∧ Aside0 (Kd.S (Kd.slice 2 (Kd.int .i64)) 22 w' w.heap.size (fun k_ => some k_ ≠ ((.slice Ao16 t309.length co16) : Value).ownBlock ∧ some k_ ≠ (v321 : Value).ownBlock ∧ some k_ ≠ ((.slice Ao21 t323.length co21) : Value).ownBlock ∧ some k_ ≠ (v340 : Value).ownBlock) (.slice Ao17 t310.length co17) t310) ∧ Aside0 (Kd.R (Kd.int .i64) 2 w' w.heap.size (fun k_ => some k_ ≠ ((.slice Ao16 t309.length co16) : Value).ownBlock ∧ some k_ ≠ ((.slice Ao21 t323.length co21) : Value).ownBlock ∧ some k_ ≠ (v340 : Value).ownBlock) v321 t319) ∧ Aside0 (Kd.R (Kd.int .i64) 2 w' w.heap.size (fun k_ => some k_ ≠ ((.slice Ao16 t309.length co16) : Value).ownBlock ∧ some k_ ≠ (v321 : Value).ownBlock ∧ some k_ ≠ (v340 : Value).ownBlock) (.slice Ao21 t323.length co21) t323) ∧ Aside0 (Kd.R (Kd.int .i64) 2 w' w.heap.size (fun k_ => some k_ ≠ ((.slice Ao16 t309.length co16) : Value).ownBlock ∧ some k_ ≠ (v321 : Value).ownBlock ∧ some k_ ≠ ((.slice Ao21 t323.length co21) : Value).ownBlock) v340 t338) ∧ Aside0 (w'.heap[gb329]? = some (.cells #[.int .i64 t326, .int .i64 t327] 34 (0, 0))) ∧ Aside0 (w'.heap[gb333]? = some (.cells #[.int .i64 t330, .int .i64 t331] 34 (0, 0))) ∧ Aside0 (Below w.heap.size w w'))
                      case atStart => exact ⟨(0), (by first | rfl | (simp; done) | (simp [*]; done)), H', ⟨Nat.le_refl _⟩, ⟨by (with_reducible repeat (first | apply Kd.R_alloc | apply Kd.R_drewN | apply Kd.R_drew)); exact HO_3.out⟩, ⟨by (with_reducible repeat (first | apply Kd.S_alloc | apply Kd.S_drewN | apply Kd.S_drew)); exact HO_4.out⟩, ⟨by (with_reducible repeat (first | apply Kd.R_alloc | apply Kd.R_drewN | apply Kd.R_drew)); exact HO_7.out⟩, ⟨by (with_reducible repeat (first | apply Kd.R_alloc | apply Kd.R_drewN | apply Kd.R_drew)); exact HO_9.out⟩, ⟨by (with_reducible repeat (first | apply Kd.R_alloc | apply Kd.R_drewN | apply Kd.R_drew)); exact HO_16.out⟩, ⟨by (with_reducible repeat (first | refine blk_drewN ?_ _ | refine blk_drew ?_ | refine blk_alloc ?_ _)); exact BK329.out⟩, ⟨by (with_reducible repeat (first | refine blk_drewN ?_ _ | refine blk_drew ?_ | refine blk_alloc ?_ _)); exact BK333.out⟩, ⟨by repeat (first | (with_reducible first | exact HB.out | apply below_alloc | apply pw_below_drewN | apply below_drew1 | refine below_set ?_ GE329.out | refine below_set ?_ GE333.out) | exact HB.out)⟩⟩
                      case round =>
                        clear H'
                        try clear c1
                        try clear c2
                        try clear p2
                        try clear c3
                        try clear c4
                        try clear c5
                        try clear c6
                        try clear p6
                        try clear c7
                        try clear c8
                        try clear c9
                        try clear c13
                        try clear c21
                        try clear c22
                        try clear c25
                        try clear c26
                        try clear c27
                        try clear c29
                        try clear c30
                        try clear c33
                        try clear c33b0
                        try clear c33b1
                        try clear c35
                        try clear c36
                        try clear c36b0
                        try clear c36b1
                        try clear c37
                        try clear c37b0
                        try clear c40
                        try clear c43
                        try clear c43b0
                        try clear c43b1
                        try clear c45
                        try clear c46
                        try clear c46b0
                        try clear c46b1
                        try clear c47
                        try clear c48
                        try clear c49
                        try clear c50
                        try clear c51
                        try clear c59
                        try clear p64
                        try clear c66
                        try clear c73
                        try clear c80
                        try clear c82
                        try clear c82b0
                        try clear c82b1
                        try clear c83
                        try clear c86
                        try clear c88
                        try clear c88b0
                        try clear c88b1
                        try clear c91
                        try clear hcz24_0
                        try clear hcz24_1
                        try clear hcz28_0
                        try clear hcz28_1
                        try clear hcz41_0
                        try clear hcz41_1
                        try clear hcz42_0
                        try clear hcz42_1
                        try clear hcz51_0
                        try clear hcz51_1
                        try clear hcz52_0
                        try clear hcz52_1
                        try clear hcz60_0
                        try clear hcz60_1
                        try clear hcz61_0
                        try clear hcz61_1
                        try clear hcz67_0
                        try clear hcz67_1
                        try clear hcz68_0
                        try clear hcz68_1
                        try clear hcz74_0
                        try clear hcz74_1
                        try clear hcz75_0
                        try clear hcz75_1
                        try clear hcz84_0
                        try clear hcz84_1
                        try clear hfz24_0
                        try clear hfz24_1
                        try clear hfz28_0
                        try clear hfz28_1
                        try clear hfz41_0
                        try clear hfz41_1
                        try clear hfz42_0
                        try clear hfz42_1
                        try clear hfz51_0
                        try clear hfz51_1
                        try clear hfz52_0
                        try clear hfz52_1
                        try clear hfz60_0
                        try clear hfz60_1
                        try clear hfz61_0
                        try clear hfz61_1
                        try clear hfz67_0
                        try clear hfz67_1
                        try clear hfz68_0
                        try clear hfz68_1
                        try clear hfz74_0
                        try clear hfz74_1
                        try clear hfz75_0
                        try clear hfz75_1
                        try clear hfz84_0
                        try clear hfz84_1
                        try clear p2
                        try clear p6
                        try clear p64
                        obtain ⟨x22_4, rfl, HA, HK4, HO_3, HO_4, HO_7, HO_9, HO_16, BK329, BK333, HB⟩ := hrel
                        cases gk with
                        | zero => exact absurd HA.out (by simp [laws_FnCopiesUsed.l0])
                        | succ k4 =>
                          have H := HA.out
                          clear HA
                          simp only [laws_FnCopiesUsed.l0] at H
                          by_cases c92 : x22_4 < (t338.length : Int)
                          · rw [if_pos c92] at H
                            have c92b0 : decide (x22_4 < (t338.length : Int)) = true := decide_eq_true c92
                            clear c92
                            by_cases c93 : 0 ≤ x22_4
                            · rw [if_pos c93] at H
                              have c93b0 : decide (0 ≤ x22_4) = true := decide_eq_true c93
                              clear c93
                              by_cases c94 : 0 ≤ (rd t338 x22_4)
                              · rw [if_pos c94] at H
                                have c94b0 : decide (0 ≤ (rd t338 x22_4)) = true := decide_eq_true c94
                                clear c94
                                by_cases c95 : (rd t338 x22_4) < (t323.length : Int)
                                · rw [if_pos c95] at H
                                  have c95b0 : decide ((rd t338 x22_4) < (t323.length : Int)) = true := decide_eq_true c95
                                  clear c95
                                  by_cases c96 : (rd t323 (rd t338 x22_4)) = 0
                                  · rw [if_pos c96] at H
                                    have c96b0 : ((rd t323 (rd t338 x22_4)) == 0) = true := beq_iff_eq.mpr c96
                                    have c96b1 : ((rd t323 (rd t338 x22_4)) != 0) = false := bne_eq_false_iff_eq.mpr c96
                                    clear c96
                                    obtain rfl := Option.some.inj H
                                    obtain ⟨Ao97, co97, eo97⟩ := Kd.R_slice HO_16.out
                                    subst eo97
                                    have p354 : 0 ≤ (x22_4 : Int) := of_decide_eq_true (by first | (with_reducible assumption) | assumption)
                                    have q354 : x22_4 < (t338.length : Int) := of_decide_eq_true (by first | (with_reducible assumption) | assumption)
                                    obtain ⟨ad354, e354, hx354_0⟩ := Kd.at_int (Kd.R_reads' HO_16.out).2.2 x22_4 p354 q354
                                    cases e354
                                    replace p354 := eq_true p354
                                    replace q354 := eq_true q354
                                    have p355 : 0 ≤ ((rd t338 x22_4) : Int) := of_decide_eq_true (by first | (with_reducible assumption) | assumption)
                                    have q355 : (rd t338 x22_4) < (t323.length : Int) := of_decide_eq_true (by first | (with_reducible assumption) | assumption)
                                    obtain ⟨ad355, e355, hx355_0⟩ := Kd.at_int (Kd.R_reads' HO_9.out).2.2 (rd t338 x22_4) p355 q355
                                    cases e355
                                    replace p355 := eq_true p355
                                    replace q355 := eq_true q355
                                    go_wp2
                                    go_ret
                                    exact ⟨by first | rfl | (simp [errW_none, errW_some] <;> rfl) | (simp [*, errW_none, errW_some] <;> rfl), by repeat (first | (with_reducible first | exact HB.out | apply below_alloc | apply pw_below_drewN | apply below_drew1 | refine below_set ?_ GE329.out | refine below_set ?_ GE333.out) | exact HB.out)⟩
                                  · rw [if_neg c96] at H
                                    have c96b0 : ((rd t323 (rd t338 x22_4)) == 0) = false := beq_eq_false_iff_ne.mpr c96
                                    have c96b1 : ((rd t323 (rd t338 x22_4)) != 0) = true := bne_iff_ne.mpr c96
                                    have H' := Aside0.mk H
                                    clear H
                                    obtain ⟨Ao98, co98, eo98⟩ := Kd.R_slice HO_16.out
                                    subst eo98
                                    have p354 : 0 ≤ (x22_4 : Int) := of_decide_eq_true (by first | (with_reducible assumption) | assumption)
                                    have q354 : x22_4 < (t338.length : Int) := of_decide_eq_true (by first | (with_reducible assumption) | assumption)
                                    obtain ⟨ad354, e354, hx354_0⟩ := Kd.at_int (Kd.R_reads' HO_16.out).2.2 x22_4 p354 q354
                                    cases e354
                                    replace p354 := eq_true p354
                                    replace q354 := eq_true q354
                                    have p355 : 0 ≤ ((rd t338 x22_4) : Int) := of_decide_eq_true (by first | (with_reducible assumption) | assumption)
                                    have q355 : (rd t338 x22_4) < (t323.length : Int) := of_decide_eq_true (by first | (with_reducible assumption) | assumption)
                                    obtain ⟨ad355, e355, hx355_0⟩ := Kd.at_int (Kd.R_reads' HO_9.out).2.2 (rd t338 x22_4) p355 q355
                                    cases e355
                                    replace p355 := eq_true p355
                                    replace q355 := eq_true q355
                                    go_wp2
                                    go_roundg k4
                                    case measure => have := HJ13.out; have := HJ80.out; have := HJ86.out; have := HK4.out; omega
                                    case rel => exact ⟨(wrap64 (x22_4 + 1)), (by first | rfl | (simp; done) | (simp [*]; done)), H', ⟨by have := HJ13.out; have := HJ80.out; have := HJ86.out; have := HK4.out; omega⟩, ⟨by (with_reducible repeat (first | apply Kd.R_alloc | apply Kd.R_drewN | apply Kd.R_drew)); exact HO_3.out⟩, ⟨by (with_reducible repeat (first | apply Kd.S_alloc | apply Kd.S_drewN | apply Kd.S_drew)); exact HO_4.out⟩, ⟨by (with_reducible repeat (first | apply Kd.R_alloc | apply Kd.R_drewN | apply Kd.R_drew)); exact HO_7.out⟩, ⟨by (with_reducible repeat (first | apply Kd.R_alloc | apply Kd.R_drewN | apply Kd.R_drew)); exact HO_9.out⟩, ⟨by (with_reducible repeat (first | apply Kd.R_alloc | apply Kd.R_drewN | apply Kd.R_drew)); exact HO_16.out⟩, ⟨by (with_reducible repeat (first | refine blk_drewN ?_ _ | refine blk_drew ?_ | refine blk_alloc ?_ _)); exact BK329.out⟩, ⟨by (with_reducible repeat (first | refine blk_drewN ?_ _ | refine blk_drew ?_ | refine blk_alloc ?_ _)); exact BK333.out⟩, ⟨by repeat (first | (with_reducible first | exact HB.out | apply below_alloc | apply pw_below_drewN | apply below_drew1 | refine below_set ?_ GE329.out | refine below_set ?_ GE333.out) | exact HB.out)⟩⟩
                                · rw [if_neg c95] at H
                                  exact absurd H (by simp)
                              · rw [if_neg c94] at H
                                exact absurd H (by simp)
                            · rw [if_neg c93] at H
                              exact absurd H (by simp)
                          · rw [if_neg c92] at H
                            have c92b0 : decide (x22_4 < (t338.length : Int)) = false := decide_eq_false c92
                            clear c92
                            by_cases c99 : t316 = 0
                            · rw [if_pos c99] at H
                              have c99b0 : (t316 == 0) = true := beq_iff_eq.mpr c99
                              have c99b1 : (t316 != 0) = false := bne_eq_false_iff_eq.mpr c99
                              clear c99
                              have H' := Aside0.mk H
                              clear H
                              obtain ⟨Ao100, co100, eo100⟩ := Kd.R_slice HO_16.out
                              subst eo100
                              go_wp2
                              go_loopg [23] k4 (fun kq v23 w' => ∃ (x23_5 : Int), v23 = .int .i64 x23_5 ∧ Aside0 (laws_FnCopiesUsed.l1 kq t309 t310 t319 x23_5 = some r) ∧ Aside0 (kq ≤ k4) ∧ Aside0 (Kd.R (Kd.int .i64) 2 w' w.heap.size (fun k_ => some k_ ≠ (v321 : Value).ownBlock) (.slice Ao16 t309.length co16) t309) ∧ Aside0 (Kd.S (Kd.slice 2 (Kd.int .i64)) 22 w' w.heap.size (fun k_ => some k_ ≠ ((.slice Ao16 t309.length co16) : Value).ownBlock ∧ some k_ ≠ (v321 : Value).ownBlock) (.slice Ao17 t310.length co17) t310) ∧ Aside0 (Kd.R (Kd.int .i64) 2 w' w.heap.size (fun k_ => some k_ ≠ ((.slice Ao16 t309.length co16) : Value).ownBlock) v321 t319) ∧ Aside0 (w'.heap[gb329]? = some (.cells #[.int .i64 t326, .int .i64 t327] 34 (0, 0))) ∧ Aside0 (w'.heap[gb333]? = some (.cells #[.int .i64 t330, .int .i64 t331] 34 (0, 0))) ∧ Aside0 (Below w.heap.size w w'))
                              case atStart => exact ⟨(0), (by first | rfl | (simp; done) | (simp [*]; done)), H', ⟨Nat.le_refl _⟩, ⟨by (with_reducible repeat (first | apply Kd.R_alloc | apply Kd.R_drewN | apply Kd.R_drew)); exact Kd.R_mono HO_3.out (fun _ hk => hk.1)⟩, ⟨by (with_reducible repeat (first | apply Kd.S_alloc | apply Kd.S_drewN | apply Kd.S_drew)); exact Kd.S_mono HO_4.out (fun _ hk => ⟨hk.1, hk.2.1⟩)⟩, ⟨by (with_reducible repeat (first | apply Kd.R_alloc | apply Kd.R_drewN | apply Kd.R_drew)); exact Kd.R_mono HO_7.out (fun _ hk => hk.1)⟩, ⟨by (with_reducible repeat (first | refine blk_drewN ?_ _ | refine blk_drew ?_ | refine blk_alloc ?_ _)); exact BK329.out⟩, ⟨by (with_reducible repeat (first | refine blk_drewN ?_ _ | refine blk_drew ?_ | refine blk_alloc ?_ _)); exact BK333.out⟩, ⟨by repeat (first | (with_reducible first | exact HB.out | apply below_alloc | apply pw_below_drewN | apply below_drew1 | refine below_set ?_ GE329.out | refine below_set ?_ GE333.out) | exact HB.out)⟩⟩
                              case round =>
                                clear H'
                                try clear c1
                                try clear c2
                                try clear p2
                                try clear c3
                                try clear p3
                                try clear q3
                                try clear hx3
                                try clear c4
                                try clear c5
                                try clear c6
                                try clear p6
                                try clear c7
                                try clear c8
                                try clear c9
                                try clear c13
                                try clear c21
                                try clear c22
                                try clear c25
                                try clear c26
                                try clear c27
                                try clear c29
                                try clear c30
                                try clear c33
                                try clear c33b0
                                try clear c33b1
                                try clear c35
                                try clear p35
                                try clear q35
                                try clear hx35
                                try clear c36
                                try clear c36b0
                                try clear c36b1
                                try clear c37
                                try clear c37b0
                                try clear c40
                                try clear c43
                                try clear c43b0
                                try clear c43b1
                                try clear c45
                                try clear c46
                                try clear c46b0
                                try clear c46b1
                                try clear c47
                                try clear c48
                                try clear c49
                                try clear c50
                                try clear c51
                                try clear c59
                                try clear p64
                                try clear c66
                                try clear c73
                                try clear c80
                                try clear c82
                                try clear c82b0
                                try clear c82b1
                                try clear c83
                                try clear c86
                                try clear c88
                                try clear c88b0
                                try clear c88b1
                                try clear c91
                                try clear c92
                                try clear c92b0
                                try clear c93
                                try clear c93b0
                                try clear c94
                                try clear c94b0
                                try clear c95
                                try clear c95b0
                                try clear c96
                                try clear c96b0
                                try clear c96b1
                                try clear c99
                                try clear c99b0
                                try clear c99b1
                                try clear hcz24_0
                                try clear hcz24_1
                                try clear hcz28_0
                                try clear hcz28_1
                                try clear hcz41_0
                                try clear hcz41_1
                                try clear hcz42_0
                                try clear hcz42_1
                                try clear hcz51_0
                                try clear hcz51_1
                                try clear hcz52_0
                                try clear hcz52_1
                                try clear hcz60_0
                                try clear hcz60_1
                                try clear hcz61_0
                                try clear hcz61_1
                                try clear hcz67_0
                                try clear hcz67_1
                                try clear hcz68_0
                                try clear hcz68_1
                                try clear hcz74_0
                                try clear hcz74_1
                                try clear hcz75_0
                                try clear hcz75_1
                                try clear hcz84_0
                                try clear hcz84_1
                                try clear hfz24_0
                                try clear hfz24_1
                                try clear hfz28_0
                                try clear hfz28_1
                                try clear hfz41_0
                                try clear hfz41_1
                                try clear hfz42_0
                                try clear hfz42_1
                                try clear hfz51_0
                                try clear hfz51_1
                                try clear hfz52_0
                                try clear hfz52_1
                                try clear hfz60_0
                                try clear hfz60_1
                                try clear hfz61_0
                                try clear hfz61_1
                                try clear hfz67_0
                                try clear hfz67_1
                                try clear hfz68_0
                                try clear hfz68_1
                                try clear hfz74_0
                                try clear hfz74_1
                                try clear hfz75_0
                                try clear hfz75_1
                                try clear hfz84_0
                                try clear hfz84_1
                                try clear hx354_0
                                try clear hx355_0
                                try clear p2
                                try clear p354
                                try clear p355
                                try clear p6
                                try clear p64
                                try clear q354
                                try clear q355
                                obtain ⟨x23_5, rfl, HA, HK5, HO_3, HO_4, HO_7, BK329, BK333, HB⟩ := hrel
                                cases gk with
                                | zero => exact absurd HA.out (by simp [laws_FnCopiesUsed.l1])
                                | succ k5 =>
                                  have H := HA.out
                                  clear HA
                                  simp only [laws_FnCopiesUsed.l1] at H
                                  by_cases c101 : x23_5 < (t309.length : Int)
                                  · rw [if_pos c101] at H
                                    have c101b0 : decide (x23_5 < (t309.length : Int)) = true := decide_eq_true c101
                                    clear c101
                                    by_cases c102 : 0 ≤ x23_5
                                    · rw [if_pos c102] at H
                                      have c102b0 : decide (0 ≤ x23_5) = true := decide_eq_true c102
                                      clear c102
                                      have H' := Aside0.mk H
                                      clear H
                                      have p356 : 0 ≤ (x23_5 : Int) := of_decide_eq_true (by first | (with_reducible assumption) | assumption)
                                      have q356 : x23_5 < (t309.length : Int) := of_decide_eq_true (by first | (with_reducible assumption) | assumption)
                                      obtain ⟨ad356, e356, hx356_0⟩ := Kd.at_int (Kd.R_reads' HO_3.out).2.2 x23_5 p356 q356
                                      cases e356
                                      replace p356 := eq_true p356
                                      replace q356 := eq_true q356
                                      go_wp2
                                      go_loopg [24, 25] k5 (fun kq v24 v25 w' => ∃ (x24_6 : Bool) (x25_6 : Int), v24 = .bool x24_6 ∧ v25 = .int .i64 x25_6 ∧ Aside0 (laws_FnCopiesUsed.l2 kq t309 t310 t319 x23_5 x24_6 x25_6 = some r) ∧ Aside0 (kq ≤ k5) ∧ Aside0 (Kd.R (Kd.int .i64) 2 w' w.heap.size (fun k_ => some k_ ≠ (v321 : Value).ownBlock) (.slice (some ad356) t309.length co16) t309) ∧ Aside0 (Kd.S (Kd.slice 2 (Kd.int .i64)) 22 w' w.heap.size (fun k_ => some k_ ≠ ((.slice (some ad356) t309.length co16) : Value).ownBlock ∧ some k_ ≠ (v321 : Value).ownBlock) (.slice Ao17 t310.length co17) t310) ∧ Aside0 (Kd.R (Kd.int .i64) 2 w' w.heap.size (fun k_ => some k_ ≠ ((.slice (some ad356) t309.length co16) : Value).ownBlock) v321 t319) ∧ Aside0 (w'.heap[gb329]? = some (.cells #[.int .i64 t326, .int .i64 t327] 34 (0, 0))) ∧ Aside0 (w'.heap[gb333]? = some (.cells #[.int .i64 t330, .int .i64 t331] 34 (0, 0))) ∧ Aside0 (Below w.heap.size w w'))
                                      case atStart => exact ⟨(((rd t309 x23_5) != 1)), (0), (by first | rfl | (simp; done) | (simp [*]; done)), (by first | rfl | (simp; done) | (simp [*]; done)), H', ⟨Nat.le_refl _⟩, ⟨by (with_reducible repeat (first | apply Kd.R_alloc | apply Kd.R_drewN | apply Kd.R_drew)); exact HO_3.out⟩, ⟨by (with_reducible repeat (first | apply Kd.S_alloc | apply Kd.S_drewN | apply Kd.S_drew)); exact HO_4.out⟩, ⟨by (with_reducible repeat (first | apply Kd.R_alloc | apply Kd.R_drewN | apply Kd.R_drew)); exact HO_7.out⟩, ⟨by (with_reducible repeat (first | refine blk_drewN ?_ _ | refine blk_drew ?_ | refine blk_alloc ?_ _)); exact BK329.out⟩, ⟨by (with_reducible repeat (first | refine blk_drewN ?_ _ | refine blk_drew ?_ | refine blk_alloc ?_ _)); exact BK333.out⟩, ⟨by repeat (first | (with_reducible first | exact HB.out | apply below_alloc | apply pw_below_drewN | apply below_drew1 | refine below_set ?_ GE329.out | refine below_set ?_ GE333.out) | exact HB.out)⟩⟩
                                      case round =>
                                        clear H'
                                        try clear c1
                                        try clear c2
                                        try clear p2
                                        try clear c3
                                        try clear p3
                                        try clear q3
                                        try clear hx3
                                        try clear c4
                                        try clear c5
                                        try clear c6
                                        try clear p6
                                        try clear c7
                                        try clear c8
                                        try clear c9
                                        try clear c10
                                        try clear c13
                                        try clear c21
                                        try clear c22
                                        try clear c25
                                        try clear c26
                                        try clear c27
                                        try clear c29
                                        try clear c30
                                        try clear c33
                                        try clear c33b0
                                        try clear c33b1
                                        try clear c35
                                        try clear p35
                                        try clear q35
                                        try clear hx35
                                        try clear c36
                                        try clear c36b0
                                        try clear c36b1
                                        try clear c37
                                        try clear c37b0
                                        try clear c40
                                        try clear c43
                                        try clear c43b0
                                        try clear c43b1
                                        try clear c45
                                        try clear c46
                                        try clear c46b0
                                        try clear c46b1
                                        try clear c47
                                        try clear c48
                                        try clear c49
                                        try clear c50
                                        try clear c51
                                        try clear c59
                                        try clear p64
                                        try clear c66
                                        try clear c73
                                        try clear c80
                                        try clear c82
                                        try clear c82b0
                                        try clear c82b1
                                        try clear c83
                                        try clear c86
                                        try clear c88
                                        try clear c88b0
                                        try clear c88b1
                                        try clear c91
                                        try clear c92
                                        try clear c92b0
                                        try clear c93
                                        try clear c93b0
                                        try clear c94
                                        try clear c94b0
                                        try clear c95
                                        try clear c95b0
                                        try clear c96
                                        try clear c96b0
                                        try clear c96b1
                                        try clear c99
                                        try clear c99b0
                                        try clear c99b1
                                        try clear c101
                                        try clear c101b0
                                        try clear c102
                                        try clear c102b0
                                        try clear hcz24_0
                                        try clear hcz24_1
                                        try clear hcz28_0
                                        try clear hcz28_1
                                        try clear hcz41_0
                                        try clear hcz41_1
                                        try clear hcz42_0
                                        try clear hcz42_1
                                        try clear hcz51_0
                                        try clear hcz51_1
                                        try clear hcz52_0
                                        try clear hcz52_1
                                        try clear hcz60_0
                                        try clear hcz60_1
                                        try clear hcz61_0
                                        try clear hcz61_1
                                        try clear hcz67_0
                                        try clear hcz67_1
                                        try clear hcz68_0
                                        try clear hcz68_1
                                        try clear hcz74_0
                                        try clear hcz74_1
                                        try clear hcz75_0
                                        try clear hcz75_1
                                        try clear hcz84_0
                                        try clear hcz84_1
                                        try clear hfz24_0
                                        try clear hfz24_1
                                        try clear hfz28_0
                                        try clear hfz28_1
                                        try clear hfz41_0
                                        try clear hfz41_1
                                        try clear hfz42_0
                                        try clear hfz42_1
                                        try clear hfz51_0
                                        try clear hfz51_1
                                        try clear hfz52_0
                                        try clear hfz52_1
                                        try clear hfz60_0
                                        try clear hfz60_1
                                        try clear hfz61_0
                                        try clear hfz61_1
                                        try clear hfz67_0
                                        try clear hfz67_1
                                        try clear hfz68_0
                                        try clear hfz68_1
                                        try clear hfz74_0
                                        try clear hfz74_1
                                        try clear hfz75_0
                                        try clear hfz75_1
                                        try clear hfz84_0
                                        try clear hfz84_1
                                        try clear hx354_0
                                        try clear hx355_0
                                        try clear hx356_0
                                        try clear p2
                                        try clear p3
                                        try clear p35
                                        try clear p354
                                        try clear p355
                                        try clear p356
                                        try clear p6
                                        try clear p64
                                        try clear q3
                                        try clear q35
                                        try clear q354
                                        try clear q355
                                        try clear q356
                                        obtain ⟨x24_6, x25_6, rfl, rfl, HA, HK6, HO_3, HO_4, HO_7, BK329, BK333, HB⟩ := hrel
                                        cases gk with
                                        | zero => exact absurd HA.out (by simp [laws_FnCopiesUsed.l2])
                                        | succ k6 =>
                                          have H := HA.out
                                          clear HA
                                          simp only [laws_FnCopiesUsed.l2] at H
                                          by_cases c103 : x25_6 < (t319.length : Int)
                                          · rw [if_pos c103] at H
                                            have c103b0 : decide (x25_6 < (t319.length : Int)) = true := decide_eq_true c103
                                            clear c103
                                            by_cases c104 : x24_6 = true
                                            · subst c104
                                              have H1 : (laws_FnCopiesUsed.l2 k6 t309 t310 t319 x23_5 true (wrap64 (x25_6 + 1))) = some r := by rw [if_pos rfl] at H; exact H
                                              clear H
                                              have H := H1
                                              clear H1
                                              have H' := Aside0.mk H
                                              clear H
                                              obtain ⟨Ao105, co105, eo105⟩ := Kd.R_slice HO_7.out
                                              subst eo105
                                              go_wp2
                                              go_roundg k6
                                              case measure => have := HJ13.out; have := HJ80.out; have := HJ86.out; have := HK4.out; have := HK5.out; have := HK6.out; omega
                                              case rel => exact ⟨(true), (wrap64 (x25_6 + 1)), (by first | rfl | (simp; done) | (simp [*]; done)), (by first | rfl | (simp; done) | (simp [*]; done)), H', ⟨by have := HJ13.out; have := HJ80.out; have := HJ86.out; have := HK4.out; have := HK5.out; have := HK6.out; omega⟩, ⟨by (with_reducible repeat (first | apply Kd.R_alloc | apply Kd.R_drewN | apply Kd.R_drew)); exact HO_3.out⟩, ⟨by (with_reducible repeat (first | apply Kd.S_alloc | apply Kd.S_drewN | apply Kd.S_drew)); exact HO_4.out⟩, ⟨by (with_reducible repeat (first | apply Kd.R_alloc | apply Kd.R_drewN | apply Kd.R_drew)); exact HO_7.out⟩, ⟨by (with_reducible repeat (first | refine blk_drewN ?_ _ | refine blk_drew ?_ | refine blk_alloc ?_ _)); exact BK329.out⟩, ⟨by (with_reducible repeat (first | refine blk_drewN ?_ _ | refine blk_drew ?_ | refine blk_alloc ?_ _)); exact BK333.out⟩, ⟨by repeat (first | (with_reducible first | exact HB.out | apply below_alloc | apply pw_below_drewN | apply below_drew1 | refine below_set ?_ GE329.out | refine below_set ?_ GE333.out) | exact HB.out)⟩⟩
                                            · replace c104 := Bool.eq_false_iff.mpr c104
                                              subst c104
                                              have H1 : (if 0 ≤ x25_6 then (if 0 ≤ (rd t319 x25_6) then (if (rd t319 x25_6) < (t310.length : Int) then (if 0 ≤ x23_5 then (if x23_5 < ((rd_L1 t310 (rd t319 x25_6)).length : Int) then (laws_FnCopiesUsed.l2 k6 t309 t310 t319 x23_5 ((rd (rd_L1 t310 (rd t319 x25_6)) x23_5) == 0) (wrap64 (x25_6 + 1))) else (none)) else (none)) else (none)) else (none)) else (none)) = some r := by rw [if_neg (show ¬ (false = true) by decide)] at H; exact H
                                              clear H
                                              have H := H1
                                              clear H1
                                              by_cases c106 : 0 ≤ x25_6
                                              · rw [if_pos c106] at H
                                                have c106b0 : decide (0 ≤ x25_6) = true := decide_eq_true c106
                                                clear c106
                                                by_cases c107 : 0 ≤ (rd t319 x25_6)
                                                · rw [if_pos c107] at H
                                                  have c107b0 : decide (0 ≤ (rd t319 x25_6)) = true := decide_eq_true c107
                                                  clear c107
                                                  by_cases c108 : (rd t319 x25_6) < (t310.length : Int)
                                                  · rw [if_pos c108] at H
                                                    have c108b0 : decide ((rd t319 x25_6) < (t310.length : Int)) = true := decide_eq_true c108
                                                    clear c108
                                                    by_cases c109 : 0 ≤ x23_5
                                                    · rw [if_pos c109] at H
                                                      have c109b0 : decide (0 ≤ x23_5) = true := decide_eq_true c109
                                                      clear c109
                                                      by_cases c110 : x23_5 < ((rd_L1 t310 (rd t319 x25_6)).length : Int)
                                                      · rw [if_pos c110] at H
                                                        have c110b0 : decide (x23_5 < ((rd_L1 t310 (rd t319 x25_6)).length : Int)) = true := decide_eq_true c110
                                                        clear c110
                                                        have H' := Aside0.mk H
                                                        clear H
                                                        obtain ⟨Ao111, co111, eo111⟩ := Kd.R_slice HO_7.out
                                                        subst eo111
                                                        have p357 : 0 ≤ (x25_6 : Int) := of_decide_eq_true (by first | (with_reducible assumption) | assumption)
                                                        have q357 : x25_6 < (t319.length : Int) := of_decide_eq_true (by first | (with_reducible assumption) | assumption)
                                                        obtain ⟨ad357, e357, hx357_0⟩ := Kd.at_int (Kd.R_reads' HO_7.out).2.2 x25_6 p357 q357
                                                        cases e357
                                                        replace p357 := eq_true p357
                                                        replace q357 := eq_true q357
                                                        have p358 : 0 ≤ ((rd t319 x25_6) : Int) := of_decide_eq_true (by first | (with_reducible assumption) | assumption)
                                                        have q358 : (rd t319 x25_6) < (t310.length : Int) := of_decide_eq_true (by first | (with_reducible assumption) | assumption)
                                                        obtain ⟨ad358, A358_0, c358_0, e358, hx358_0, hl358_0, hi358_0⟩ := at_L1 (Kd.S_reads' HO_4.out).2.2 (rd t319 x25_6) p358 q358
                                                        cases e358
                                                        obtain ⟨ce358, hce358, hMe358, hcc358⟩ := Kd.S_get HO_4.out [] (rd t319 x25_6) p358 (by first | exact q358 | exact of_decide_eq_true (by first | (with_reducible assumption) | assumption) | (have e_ := (Kd.S_reads' HO_4.out).1; omega))
                                                        obtain ⟨ve358_0, rfl, ge358_0⟩ := hMe358
                                                        have hv358_0 := hcc358 0 _ rfl
                                                        rw [Nat.add_zero, show ((Kd.slice 2 (Kd.int .i64))).sz = 1 from rfl, Nat.mul_one] at hv358_0
                                                        replace hv358_0 := Option.some.inj (hv358_0.symm.trans hx358_0)
                                                        rw [hv358_0] at ge358_0
                                                        have HL358_0 := Aside0.mk (show Kd.R (Kd.int .i64) 2 _ _ _ _ (rd_L1 t310 (rd t319 x25_6)) from ge358_0)
                                                        clear hv358_0 ge358_0
                                                        clear hcc358 hce358
                                                        have HR358_0 := Aside0.mk hi358_0
                                                        have HC358_0 := Aside0.mk hl358_0
                                                        clear hi358_0 hl358_0
                                                        replace p358 := eq_true p358
                                                        replace q358 := eq_true q358
                                                        have p359 : 0 ≤ (x23_5 : Int) := of_decide_eq_true (by first | (with_reducible assumption) | assumption)
                                                        have q359 : x23_5 < ((rd_L1 t310 (rd t319 x25_6)).length : Int) := of_decide_eq_true (by first | (with_reducible assumption) | assumption)
                                                        obtain ⟨ad359, e359, hx359_0⟩ := Kd.at_int (by repeat (first | (with_reducible exact HR358_0.out) | (with_reducible refine Kd.C_alloc ?_ _) | (with_reducible refine Kd.C_drewN ?_ _) | (with_reducible refine Kd.C_drew ?_) | exact HR358_0.out)) x23_5 p359 q359
                                                        cases e359
                                                        replace p359 := eq_true p359
                                                        replace q359 := eq_true q359
                                                        go_wp2
                                                        go_roundg k6
                                                        case measure => have := HJ13.out; have := HJ80.out; have := HJ86.out; have := HK4.out; have := HK5.out; have := HK6.out; omega
                                                        case rel => exact ⟨(((rd (rd_L1 t310 (rd t319 x25_6)) x23_5) == 0)), (wrap64 (x25_6 + 1)), (by first | rfl | (simp; done) | (simp [*]; done)), (by first | rfl | (simp; done) | (simp [*]; done)), H', ⟨by have := HJ13.out; have := HJ80.out; have := HJ86.out; have := HK4.out; have := HK5.out; have := HK6.out; omega⟩, ⟨by (with_reducible repeat (first | apply Kd.R_alloc | apply Kd.R_drewN | apply Kd.R_drew)); exact HO_3.out⟩, ⟨by (with_reducible repeat (first | apply Kd.S_alloc | apply Kd.S_drewN | apply Kd.S_drew)); exact HO_4.out⟩, ⟨by (with_reducible repeat (first | apply Kd.R_alloc | apply Kd.R_drewN | apply Kd.R_drew)); exact HO_7.out⟩, ⟨by (with_reducible repeat (first | refine blk_drewN ?_ _ | refine blk_drew ?_ | refine blk_alloc ?_ _)); exact BK329.out⟩, ⟨by (with_reducible repeat (first | refine blk_drewN ?_ _ | refine blk_drew ?_ | refine blk_alloc ?_ _)); exact BK333.out⟩, ⟨by repeat (first | (with_reducible first | exact HB.out | apply below_alloc | apply pw_below_drewN | apply below_drew1 | refine below_set ?_ GE329.out | refine below_set ?_ GE333.out) | exact HB.out)⟩⟩
                                                      · rw [if_neg c110] at H
                                                        exact absurd H (by simp)
                                                    · rw [if_neg c109] at H
                                                      exact absurd H (by simp)
                                                  · rw [if_neg c108] at H
                                                    exact absurd H (by simp)
                                                · rw [if_neg c107] at H
                                                  exact absurd H (by simp)
                                              · rw [if_neg c106] at H
                                                exact absurd H (by simp)
                                          · rw [if_neg c103] at H
                                            have c103b0 : decide (x25_6 < (t319.length : Int)) = false := decide_eq_false c103
                                            clear c103
                                            by_cases c112 : x24_6 = true
                                            · subst c112
                                              have H1 : (laws_FnCopiesUsed.l1 k6 t309 t310 t319 (wrap64 (x23_5 + 1))) = some r := by rw [if_pos rfl] at H; exact H
                                              clear H
                                              have H := H1
                                              clear H1
                                              have H' := Aside0.mk H
                                              clear H
                                              obtain ⟨Ao113, co113, eo113⟩ := Kd.R_slice HO_7.out
                                              subst eo113
                                              go_wp2
                                              go_roundg k6
                                              case measure => have := HJ13.out; have := HJ80.out; have := HJ86.out; have := HK4.out; have := HK5.out; have := HK6.out; omega
                                              case rel => exact ⟨(wrap64 (x23_5 + 1)), (by first | rfl | (simp; done) | (simp [*]; done)), H', ⟨by have := HJ13.out; have := HJ80.out; have := HJ86.out; have := HK4.out; have := HK5.out; have := HK6.out; omega⟩, ⟨by (with_reducible repeat (first | apply Kd.R_alloc | apply Kd.R_drewN | apply Kd.R_drew)); exact HO_3.out⟩, ⟨by (with_reducible repeat (first | apply Kd.S_alloc | apply Kd.S_drewN | apply Kd.S_drew)); exact HO_4.out⟩, ⟨by (with_reducible repeat (first | apply Kd.R_alloc | apply Kd.R_drewN | apply Kd.R_drew)); exact HO_7.out⟩, ⟨by (with_reducible repeat (first | refine blk_drewN ?_ _ | refine blk_drew ?_ | refine blk_alloc ?_ _)); exact BK329.out⟩, ⟨by (with_reducible repeat (first | refine blk_drewN ?_ _ | refine blk_drew ?_ | refine blk_alloc ?_ _)); exact BK333.out⟩, ⟨by repeat (first | (with_reducible first | exact HB.out | apply below_alloc | apply pw_below_drewN | apply below_drew1 | refine below_set ?_ GE329.out | refine below_set ?_ GE333.out) | exact HB.out)⟩⟩
                                            · replace c112 := Bool.eq_false_iff.mpr c112
                                              subst c112
                                              have H1 : (some false) = some r := by rw [if_neg (show ¬ (false = true) by decide)] at H; exact H
                                              clear H
                                              have H := H1
                                              clear H1
                                              obtain rfl := Option.some.inj H
                                              obtain ⟨Ao114, co114, eo114⟩ := Kd.R_slice HO_7.out
                                              subst eo114
                                              go_wp2
                                              go_ret
                                              exact ⟨by first | rfl | (simp [errW_none, errW_some] <;> rfl) | (simp [*, errW_none, errW_some] <;> rfl), by repeat (first | (with_reducible first | exact HB.out | apply below_alloc | apply pw_below_drewN | apply below_drew1 | refine below_set ?_ GE329.out | refine below_set ?_ GE333.out) | exact HB.out)⟩
                                    · rw [if_neg c102] at H
                                      exact absurd H (by simp)
                                  · rw [if_neg c101] at H
                                    have c101b0 : decide (x23_5 < (t309.length : Int)) = false := decide_eq_false c101
                                    clear c101
                                    obtain rfl := Option.some.inj H
                                    go_wp2
                                    go_ret
                                    exact ⟨by first | rfl | (simp [errW_none, errW_some] <;> rfl) | (simp [*, errW_none, errW_some] <;> rfl), by repeat (first | (with_reducible first | exact HB.out | apply below_alloc | apply pw_below_drewN | apply below_drew1 | refine below_set ?_ GE329.out | refine below_set ?_ GE333.out) | exact HB.out)⟩
                            · rw [if_neg c99] at H
                              have c99b0 : (t316 == 0) = false := beq_eq_false_iff_ne.mpr c99
                              have c99b1 : (t316 != 0) = true := bne_iff_ne.mpr c99
                              obtain rfl := Option.some.inj H
                              obtain ⟨Ao115, co115, eo115⟩ := Kd.R_slice HO_16.out
                              subst eo115
                              go_wp2
                              go_ret
                              exact ⟨by first | rfl | (simp [errW_none, errW_some] <;> rfl) | (simp [*, errW_none, errW_some] <;> rfl), by repeat (first | (with_reducible first | exact HB.out | apply below_alloc | apply pw_below_drewN | apply below_drew1 | refine below_set ?_ GE329.out | refine below_set ?_ GE333.out) | exact HB.out)⟩

/-- THE ONE PURE STATEMENT of laws_FnCopiesUsed: yours. -/
def laws_FnCopiesUsed.Pure : Prop := ∀ (l0 : List Int), l0.length ≤ maxLen → l0.length * 1 ≤ 140737488351232 → (∀ x ∈ l0, (Lit.int .u8 x).wf = true) → ∃ k, laws_FnCopiesUsed.f k l0 = some true
theorem laws_FnCopiesUsed.walk (P : laws_FnCopiesUsed.Pure) (a0 : Option Addr) (len0 cap0 : Nat) (z0 : List Int) (w : World) (w0 : (a0 = none ∧ len0 = 0 ∧ cap0 = 0 ∧ z0 = []) ∨ ∃ x, a0 = some x ∧ len0 ≤ cap0 ∧ cap0 ≤ maxLen ∧ z0.length = cap0 ∧ (∀ i, i < z0.length → w.cell? (x.add i) = some (.int .u8 (z0.getD i 0))) ∧ ∀ n ∈ z0, (Lit.int .u8 n).wf = true) (y0 : len0 * 1 ≤ 140737488351232) :
    Calls Try.prog 13 #[.slice a0 len0 cap0] w fun e w' => e = .returned (.bool true) ∧ Below w.heap.size w w' := by
  obtain ⟨l0, rfl, hr0, hm0, hw0, hc0⟩ := ReadsInt.ofRowC w0
  obtain ⟨k, h⟩ := P l0 hm0 y0 hw0
  refine (laws_FnCopiesUsed.calls k _ _ l0 true w (Kd.C_of_reads (d := (0 : Int)) (h1 := fun _ => rfl) hr0) hc0 h).mono ?_
  rintro e w' ⟨rfl, hd⟩
  exact ⟨rfl, hd⟩

end Go.Proofs.Ytfajacoagaamlaa.QFnCopiesUsed
