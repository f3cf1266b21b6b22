/- Walks of the Go functions that the law FnPasting reaches: written by a program of this session. -/
import Derived.Test.YtfpddpkloplpeaaQFnPastingx0
import Derived.Test.YtfpddpkloplpeaaQFnPastingx1
import Derived.Test.YtfpddpkloplpeaaQFnPastingx2
import Derived.Test.YtfpddpkloplpeaaQFnPastingx3
import Derived.Test.YtfpddpkloplpeaaQFnPastingx5
import Derived.Test.YtfpddpkloplpeaaQFnPastingx6
import Derived.Test.YtfpddpkloplpeaaQFnPastingx7
import Derived.Test.YtfpddpkloplpeaaQFnPastingx8
namespace Go.Proofs.Ytfpddpkloplpeaa.QFnPasting
open Go.RowKit Go.Proofs.YtfpddpkloplpeaaW.PrintWords Go.Proofs.YtfpddpkloplpeaaW.PrintLast Go.Proofs.YtfpddpkloplpeaaW.PrintMore
attribute [local go_sem] max2_int min2_int max_two min_two max_three min_three max_four min_four   -- for this text's walks alone
set_option linter.unusedVariables false
set_option linter.unusedSimpArgs false

/-! ### laws_FnPasting: function 10 -/
mutual
def laws_FnPasting.j0 : Nat → List Int → Int → Int → Int → List Int → Int → Int → Int → Int → List Int → Int → Int → Int → Int → Int → List Int → Bool → Option (Bool)
  | 0, _, _, _, _, _, _, _, _, _, _, _, _, _, _, _, _, _ => none
  | k + 1, x3, x4, x5, x7, x8, x12, x14, x15, x16, x17, x19, x21, x30, x31, x33, x34, x192 => if x192 = true then (some false) else (if x33 = 0 then ((laws_f6sum.f k x34).bind fun t435 => (if t435 = x30 then (laws_FnPasting.j1 k x3 x4 x5 x7 x8 x12 x14 x15 x16 x17 x19 x21 ((x34.length : Int) != x31)) else (laws_FnPasting.j1 k x3 x4 x5 x7 x8 x12 x14 x15 x16 x17 x19 x21 true))) else (laws_FnPasting.j1 k x3 x4 x5 x7 x8 x12 x14 x15 x16 x17 x19 x21 false))
def laws_FnPasting.j1 : Nat → List Int → Int → Int → Int → List Int → Int → Int → Int → Int → List Int → Int → Int → Bool → Option (Bool)
  | 0, _, _, _, _, _, _, _, _, _, _, _, _, _ => none
  | k + 1, x3, x4, x5, x7, x8, x12, x14, x15, x16, x17, x19, x21, x206 => if x206 = true then (some false) else (if x19 = 0 then ((impl_EndOfPasting.f k x17 x15 x16).bind fun bt436 => (if bt436.2 = 0 then (laws_FnPasting.j2 k x3 x4 x5 x7 x8 x12 x14 x15 x16 x21 (bt436.1 != x21)) else (laws_FnPasting.j2 k x3 x4 x5 x7 x8 x12 x14 x15 x16 x21 true))) else (laws_FnPasting.j3 k x3 x4 x5 x7 x8 x12))
def laws_FnPasting.j3 : Nat → List Int → Int → Int → Int → List Int → Int → Option (Bool)
  | 0, _, _, _, _, _, _ => none
  | k + 1, x3, x4, x5, x7, x8, x12 => if x7 = 0 then (laws_FnPasting.l0 k x4 x5 x8 x12 (x3.length : Int) 0) else (some true)
def laws_FnPasting.l0 : Nat → Int → Int → List Int → Int → Int → Int → Option (Bool)
  | 0, _, _, _, _, _, _ => none
  | k + 1, x4, x5, x8, x12, x38, x39 => if x39 < x38 then (if 0 ≤ x39 then (if x39 < (x8.length : Int) then (if x38 = 0 then (none) else (if 0 ≤ (Int.tmod (wrap64 (x39 + 1)) x38) then (if (Int.tmod (wrap64 (x39 + 1)) x38) < (x8.length : Int) then (if x38 > 1 then (if (rd x8 x39) = (rd x8 (Int.tmod (wrap64 (x39 + 1)) x38)) then (laws_FnPasting.j5 k x4 x5 x8 x12 x38 x39 (rd x8 x39) false) else ((laws_f6abs.f (wrap64 ((rd x8 x39) - (rd x8 (Int.tmod (wrap64 (x39 + 1)) x38))))).bind fun t440 => (laws_FnPasting.j5 k x4 x5 x8 x12 x38 x39 (rd x8 x39) (decide (t440 < (wrap64 (x4 + x5))))))) else (laws_FnPasting.j5 k x4 x5 x8 x12 x38 x39 (rd x8 x39) false)) else (none)) else (none))) else (none)) else (none)) else (some true)
def laws_FnPasting.j5 : Nat → Int → Int → List Int → Int → Int → Int → Int → Bool → Option (Bool)
  | 0, _, _, _, _, _, _, _, _ => none
  | k + 1, x4, x5, x8, x12, x38, x39, x40, x282 => if x282 = true then (some false) else (if x40 < 0 then (some false) else (if (wrap64 ((wrap64 (x40 + x4)) + x5)) > x12 then (some false) else (laws_FnPasting.l0 k x4 x5 x8 x12 x38 (wrap64 (x39 + 1)))))
def laws_FnPasting.j2 : Nat → List Int → Int → Int → Int → List Int → Int → Int → Int → Int → Int → Bool → Option (Bool)
  | 0, _, _, _, _, _, _, _, _, _, _, _ => none
  | k + 1, x3, x4, x5, x7, x8, x12, x14, x15, x16, x21, x222 => if x222 = true then (some false) else (if x7 = 0 then (if (x3.length : Int) = x14 then (if x4 = x15 then (if x5 = x16 then (if x12 < x21 then (some false) else (laws_FnPasting.j3 k x3 x4 x5 x7 x8 x12)) else (laws_FnPasting.j3 k x3 x4 x5 x7 x8 x12)) else (laws_FnPasting.j3 k x3 x4 x5 x7 x8 x12)) else (laws_FnPasting.j3 k x3 x4 x5 x7 x8 x12)) else (laws_FnPasting.j3 k x3 x4 x5 x7 x8 x12))
end
def laws_FnPasting.f (k : Nat) (l0 : List Int) : Option (Bool) := (laws_f6big.f l0).bind fun t384 => (if t384 = true then (some true) else ((spec_DrawStartsOfPasting.f k l0).bind fun bt385 => ((impl_StartsOfPasting.f k bt385.1 bt385.2.1 bt385.2.2).bind fun bt390 => ((spec_StartsOfPasting.f k bt385.1 bt385.2.1 bt385.2.2).bind fun bt394 => ((impl_EndOfPasting.f k bt385.1 bt385.2.1 bt385.2.2).bind fun bt398 => ((spec_EndOfPasting.f k bt385.1 bt385.2.1 bt385.2.2).bind fun bt400 => ((spec_DrawQuickOrder.f l0).bind fun bt402 => ((impl_QuickOrder.f k bt402.1 bt402.2.1 bt402.2.2).bind fun bt405 => ((spec_QuickOrder.f k bt402.1 bt402.2.1 bt402.2.2).bind fun bt410 => ((spec_DrawHandsFor.f k l0).bind fun bt415 => ((impl_HandsFor.f k bt415.1 bt415.2.1 bt415.2.2).bind fun bt418 => ((spec_HandsFor.f k bt415.1 bt415.2.1 bt415.2.2).bind fun bt420 => ((spec_DrawShareGores.f k l0).bind fun bt422 => ((impl_ShareGores.f k bt422.1 bt422.2).bind fun bt424 => ((spec_ShareGores.f k bt422.1 bt422.2).bind fun bt428 => (if bt390.2 = bt394.2 then ((laws_f6ints.f k bt390.1 bt394.1).bind fun t432 => (if t432 = true then (if bt398.2 = bt400.2 then (if bt398.1 = bt400.1 then (if bt405.2.2 = bt410.2.2 then ((laws_f6ints.f k bt405.1 bt410.1).bind fun t433 => (if t433 = true then (if bt405.2.1 = bt410.2.1 then (if bt418.2 = bt420.2 then (if bt418.1 = bt420.1 then (if bt424.2 = bt428.2 then ((laws_f6ints.f k bt424.1 bt428.1).bind fun t434 => (laws_FnPasting.j0 k bt385.1 bt385.2.1 bt385.2.2 bt390.2 bt394.1 bt400.1 bt402.1 bt402.2.1 bt402.2.2 bt405.1 bt405.2.2 bt410.2.1 bt422.1 bt422.2 bt424.2 bt428.1 (!t434))) else (laws_FnPasting.j0 k bt385.1 bt385.2.1 bt385.2.2 bt390.2 bt394.1 bt400.1 bt402.1 bt402.2.1 bt402.2.2 bt405.1 bt405.2.2 bt410.2.1 bt422.1 bt422.2 bt424.2 bt428.1 true)) else (laws_FnPasting.j0 k bt385.1 bt385.2.1 bt385.2.2 bt390.2 bt394.1 bt400.1 bt402.1 bt402.2.1 bt402.2.2 bt405.1 bt405.2.2 bt410.2.1 bt422.1 bt422.2 bt424.2 bt428.1 true)) else (laws_FnPasting.j0 k bt385.1 bt385.2.1 bt385.2.2 bt390.2 bt394.1 bt400.1 bt402.1 bt402.2.1 bt402.2.2 bt405.1 bt405.2.2 bt410.2.1 bt422.1 bt422.2 bt424.2 bt428.1 true)) else (laws_FnPasting.j0 k bt385.1 bt385.2.1 bt385.2.2 bt390.2 bt394.1 bt400.1 bt402.1 bt402.2.1 bt402.2.2 bt405.1 bt405.2.2 bt410.2.1 bt422.1 bt422.2 bt424.2 bt428.1 true)) else (laws_FnPasting.j0 k bt385.1 bt385.2.1 bt385.2.2 bt390.2 bt394.1 bt400.1 bt402.1 bt402.2.1 bt402.2.2 bt405.1 bt405.2.2 bt410.2.1 bt422.1 bt422.2 bt424.2 bt428.1 true))) else (laws_FnPasting.j0 k bt385.1 bt385.2.1 bt385.2.2 bt390.2 bt394.1 bt400.1 bt402.1 bt402.2.1 bt402.2.2 bt405.1 bt405.2.2 bt410.2.1 bt422.1 bt422.2 bt424.2 bt428.1 true)) else (laws_FnPasting.j0 k bt385.1 bt385.2.1 bt385.2.2 bt390.2 bt394.1 bt400.1 bt402.1 bt402.2.1 bt402.2.2 bt405.1 bt405.2.2 bt410.2.1 bt422.1 bt422.2 bt424.2 bt428.1 true)) else (laws_FnPasting.j0 k bt385.1 bt385.2.1 bt385.2.2 bt390.2 bt394.1 bt400.1 bt402.1 bt402.2.1 bt402.2.2 bt405.1 bt405.2.2 bt410.2.1 bt422.1 bt422.2 bt424.2 bt428.1 true)) else (laws_FnPasting.j0 k bt385.1 bt385.2.1 bt385.2.2 bt390.2 bt394.1 bt400.1 bt402.1 bt402.2.1 bt402.2.2 bt405.1 bt405.2.2 bt410.2.1 bt422.1 bt422.2 bt424.2 bt428.1 true))) else (laws_FnPasting.j0 k bt385.1 bt385.2.1 bt385.2.2 bt390.2 bt394.1 bt400.1 bt402.1 bt402.2.1 bt402.2.2 bt405.1 bt405.2.2 bt410.2.1 bt422.1 bt422.2 bt424.2 bt428.1 true)))))))))))))))))
theorem laws_FnPasting.mono_l : ∀ k, (∀ y0 y1 y2 y3 y4 y5 y6 y7 y8 y9 y10 y11 y12 y13 y14 y15 y16, LeO (laws_FnPasting.j0 k y0 y1 y2 y3 y4 y5 y6 y7 y8 y9 y10 y11 y12 y13 y14 y15 y16) (laws_FnPasting.j0 (k + 1) y0 y1 y2 y3 y4 y5 y6 y7 y8 y9 y10 y11 y12 y13 y14 y15 y16)) ∧ (∀ y0 y1 y2 y3 y4 y5 y6 y7 y8 y9 y10 y11 y12, LeO (laws_FnPasting.j1 k y0 y1 y2 y3 y4 y5 y6 y7 y8 y9 y10 y11 y12) (laws_FnPasting.j1 (k + 1) y0 y1 y2 y3 y4 y5 y6 y7 y8 y9 y10 y11 y12)) ∧ (∀ y0 y1 y2 y3 y4 y5, LeO (laws_FnPasting.j3 k y0 y1 y2 y3 y4 y5) (laws_FnPasting.j3 (k + 1) y0 y1 y2 y3 y4 y5)) ∧ (∀ y0 y1 y2 y3 y4 y5, LeO (laws_FnPasting.l0 k y0 y1 y2 y3 y4 y5) (laws_FnPasting.l0 (k + 1) y0 y1 y2 y3 y4 y5)) ∧ (∀ y0 y1 y2 y3 y4 y5 y6 y7, LeO (laws_FnPasting.j5 k y0 y1 y2 y3 y4 y5 y6 y7) (laws_FnPasting.j5 (k + 1) y0 y1 y2 y3 y4 y5 y6 y7)) ∧ (∀ y0 y1 y2 y3 y4 y5 y6 y7 y8 y9 y10, LeO (laws_FnPasting.j2 k y0 y1 y2 y3 y4 y5 y6 y7 y8 y9 y10) (laws_FnPasting.j2 (k + 1) y0 y1 y2 y3 y4 y5 y6 y7 y8 y9 y10))
  | 0 => ⟨fun _ _ _ _ _ _ _ _ _ _ _ _ _ _ _ _ _ r h => by simp [laws_FnPasting.j0] at h, fun _ _ _ _ _ _ _ _ _ _ _ _ _ r h => by simp [laws_FnPasting.j1] at h, fun _ _ _ _ _ _ r h => by simp [laws_FnPasting.j3] at h, fun _ _ _ _ _ _ r h => by simp [laws_FnPasting.l0] at h, fun _ _ _ _ _ _ _ _ r h => by simp [laws_FnPasting.j5] at h, fun _ _ _ _ _ _ _ _ _ _ _ r h => by simp [laws_FnPasting.j2] at h⟩
  | k + 1 => by
    obtain ⟨ih0, ih1, ih2, ih3, ih4, ih5⟩ := laws_FnPasting.mono_l k
    refine ⟨?_, ?_, ?_, ?_, ?_, ?_⟩
    · intro y0 y1 y2 y3 y4 y5 y6 y7 y8 y9 y10 y11 y12 y13 y14 y15 y16
      unfold laws_FnPasting.j0
      repeat' first
      | (with_reducible exact ih0 _ _ _ _ _ _ _ _ _ _ _ _ _ _ _ _ _)
      | (with_reducible exact ih1 _ _ _ _ _ _ _ _ _ _ _ _ _)
      | (with_reducible exact ih2 _ _ _ _ _ _)
      | (with_reducible exact ih3 _ _ _ _ _ _)
      | (with_reducible exact ih4 _ _ _ _ _ _ _ _)
      | (with_reducible exact ih5 _ _ _ _ _ _ _ _ _ _ _)
      | (with_reducible exact impl_EndOfPasting.mono _ _ _ _)
      | (with_reducible exact impl_HandsFor.mono _ _ _ _)
      | (with_reducible exact impl_QuickOrder.mono _ _ _ _)
      | (with_reducible exact impl_ShareGores.mono _ _ _)
      | (with_reducible exact impl_StartsOfPasting.mono _ _ _ _)
      | (with_reducible exact laws_f6ints.mono _ _ _)
      | (with_reducible exact laws_f6sum.mono _ _)
      | (with_reducible exact spec_DrawHandsFor.mono _ _)
      | (with_reducible exact spec_DrawShareGores.mono _ _)
      | (with_reducible exact spec_DrawStartsOfPasting.mono _ _)
      | (with_reducible exact spec_EndOfPasting.mono _ _ _ _)
      | (with_reducible exact spec_HandsFor.mono _ _ _ _)
      | (with_reducible exact spec_QuickOrder.mono _ _ _ _)
      | (with_reducible exact spec_ShareGores.mono _ _ _)
      | (with_reducible exact spec_StartsOfPasting.mono _ _ _ _)
      | (with_reducible exact LeO.refl _)
      | (with_reducible exact LeO.none _)
      | (with_reducible refine LeO.ite ?_ ?_)
      | (with_reducible refine LeO.bind ?_ (fun _ => ?_))
      | exact ih0 _ _ _ _ _ _ _ _ _ _ _ _ _ _ _ _ _
      | exact ih1 _ _ _ _ _ _ _ _ _ _ _ _ _
      | exact ih2 _ _ _ _ _ _
      | exact ih3 _ _ _ _ _ _
      | exact ih4 _ _ _ _ _ _ _ _
      | exact ih5 _ _ _ _ _ _ _ _ _ _ _
      | exact impl_EndOfPasting.mono _ _ _ _
      | exact impl_HandsFor.mono _ _ _ _
      | exact impl_QuickOrder.mono _ _ _ _
      | exact impl_ShareGores.mono _ _ _
      | exact impl_StartsOfPasting.mono _ _ _ _
      | exact laws_f6ints.mono _ _ _
      | exact laws_f6sum.mono _ _
      | exact spec_DrawHandsFor.mono _ _
      | exact spec_DrawShareGores.mono _ _
      | exact spec_DrawStartsOfPasting.mono _ _
      | exact spec_EndOfPasting.mono _ _ _ _
      | exact spec_HandsFor.mono _ _ _ _
      | exact spec_QuickOrder.mono _ _ _ _
      | exact spec_ShareGores.mono _ _ _
      | exact spec_StartsOfPasting.mono _ _ _ _
      | exact LeO.none _
      | refine LeO.ite ?_ ?_
      | refine LeO.bind ?_ (fun _ => ?_)
    · intro y0 y1 y2 y3 y4 y5 y6 y7 y8 y9 y10 y11 y12
      unfold laws_FnPasting.j1
      repeat' first
      | (with_reducible exact ih0 _ _ _ _ _ _ _ _ _ _ _ _ _ _ _ _ _)
      | (with_reducible exact ih1 _ _ _ _ _ _ _ _ _ _ _ _ _)
      | (with_reducible exact ih2 _ _ _ _ _ _)
      | (with_reducible exact ih3 _ _ _ _ _ _)
      | (with_reducible exact ih4 _ _ _ _ _ _ _ _)
      | (with_reducible exact ih5 _ _ _ _ _ _ _ _ _ _ _)
      | (with_reducible exact impl_EndOfPasting.mono _ _ _ _)
      | (with_reducible exact impl_HandsFor.mono _ _ _ _)
      | (with_reducible exact impl_QuickOrder.mono _ _ _ _)
      | (with_reducible exact impl_ShareGores.mono _ _ _)
      | (with_reducible exact impl_StartsOfPasting.mono _ _ _ _)
      | (with_reducible exact laws_f6ints.mono _ _ _)
      | (with_reducible exact laws_f6sum.mono _ _)
      | (with_reducible exact spec_DrawHandsFor.mono _ _)
      | (with_reducible exact spec_DrawShareGores.mono _ _)
      | (with_reducible exact spec_DrawStartsOfPasting.mono _ _)
      | (with_reducible exact spec_EndOfPasting.mono _ _ _ _)
      | (with_reducible exact spec_HandsFor.mono _ _ _ _)
      | (with_reducible exact spec_QuickOrder.mono _ _ _ _)
      | (with_reducible exact spec_ShareGores.mono _ _ _)
      | (with_reducible exact spec_StartsOfPasting.mono _ _ _ _)
      | (with_reducible exact LeO.refl _)
      | (with_reducible exact LeO.none _)
      | (with_reducible refine LeO.ite ?_ ?_)
      | (with_reducible refine LeO.bind ?_ (fun _ => ?_))
      | exact ih0 _ _ _ _ _ _ _ _ _ _ _ _ _ _ _ _ _
      | exact ih1 _ _ _ _ _ _ _ _ _ _ _ _ _
      | exact ih2 _ _ _ _ _ _
      | exact ih3 _ _ _ _ _ _
      | exact ih4 _ _ _ _ _ _ _ _
      | exact ih5 _ _ _ _ _ _ _ _ _ _ _
      | exact impl_EndOfPasting.mono _ _ _ _
      | exact impl_HandsFor.mono _ _ _ _
      | exact impl_QuickOrder.mono _ _ _ _
      | exact impl_ShareGores.mono _ _ _
      | exact impl_StartsOfPasting.mono _ _ _ _
      | exact laws_f6ints.mono _ _ _
      | exact laws_f6sum.mono _ _
      | exact spec_DrawHandsFor.mono _ _
      | exact spec_DrawShareGores.mono _ _
      | exact spec_DrawStartsOfPasting.mono _ _
      | exact spec_EndOfPasting.mono _ _ _ _
      | exact spec_HandsFor.mono _ _ _ _
      | exact spec_QuickOrder.mono _ _ _ _
      | exact spec_ShareGores.mono _ _ _
      | exact spec_StartsOfPasting.mono _ _ _ _
      | exact LeO.none _
      | refine LeO.ite ?_ ?_
      | refine LeO.bind ?_ (fun _ => ?_)
    · intro y0 y1 y2 y3 y4 y5
      unfold laws_FnPasting.j3
      repeat' first
      | (with_reducible exact ih0 _ _ _ _ _ _ _ _ _ _ _ _ _ _ _ _ _)
      | (with_reducible exact ih1 _ _ _ _ _ _ _ _ _ _ _ _ _)
      | (with_reducible exact ih2 _ _ _ _ _ _)
      | (with_reducible exact ih3 _ _ _ _ _ _)
      | (with_reducible exact ih4 _ _ _ _ _ _ _ _)
      | (with_reducible exact ih5 _ _ _ _ _ _ _ _ _ _ _)
      | (with_reducible exact impl_EndOfPasting.mono _ _ _ _)
      | (with_reducible exact impl_HandsFor.mono _ _ _ _)
      | (with_reducible exact impl_QuickOrder.mono _ _ _ _)
      | (with_reducible exact impl_ShareGores.mono _ _ _)
      | (with_reducible exact impl_StartsOfPasting.mono _ _ _ _)
      | (with_reducible exact laws_f6ints.mono _ _ _)
      | (with_reducible exact laws_f6sum.mono _ _)
      | (with_reducible exact spec_DrawHandsFor.mono _ _)
      | (with_reducible exact spec_DrawShareGores.mono _ _)
      | (with_reducible exact spec_DrawStartsOfPasting.mono _ _)
      | (with_reducible exact spec_EndOfPasting.mono _ _ _ _)
      | (with_reducible exact spec_HandsFor.mono _ _ _ _)
      | (with_reducible exact spec_QuickOrder.mono _ _ _ _)
      | (with_reducible exact spec_ShareGores.mono _ _ _)
      | (with_reducible exact spec_StartsOfPasting.mono _ _ _ _)
      | (with_reducible exact LeO.refl _)
      | (with_reducible exact LeO.none _)
      | (with_reducible refine LeO.ite ?_ ?_)
      | (with_reducible refine LeO.bind ?_ (fun _ => ?_))
      | exact ih0 _ _ _ _ _ _ _ _ _ _ _ _ _ _ _ _ _
      | exact ih1 _ _ _ _ _ _ _ _ _ _ _ _ _
      | exact ih2 _ _ _ _ _ _
      | exact ih3 _ _ _ _ _ _
      | exact ih4 _ _ _ _ _ _ _ _
      | exact ih5 _ _ _ _ _ _ _ _ _ _ _
      | exact impl_EndOfPasting.mono _ _ _ _
      | exact impl_HandsFor.mono _ _ _ _
      | exact impl_QuickOrder.mono _ _ _ _
      | exact impl_ShareGores.mono _ _ _
      | exact impl_StartsOfPasting.mono _ _ _ _
      | exact laws_f6ints.mono _ _ _
      | exact laws_f6sum.mono _ _
      | exact spec_DrawHandsFor.mono _ _
      | exact spec_DrawShareGores.mono _ _
      | exact spec_DrawStartsOfPasting.mono _ _
      | exact spec_EndOfPasting.mono _ _ _ _
      | exact spec_HandsFor.mono _ _ _ _
      | exact spec_QuickOrder.mono _ _ _ _
      | exact spec_ShareGores.mono _ _ _
      | exact spec_StartsOfPasting.mono _ _ _ _
      | exact LeO.none _
      | refine LeO.ite ?_ ?_
      | refine LeO.bind ?_ (fun _ => ?_)
    · intro y0 y1 y2 y3 y4 y5
      unfold laws_FnPasting.l0
      repeat' first
      | (with_reducible exact ih0 _ _ _ _ _ _ _ _ _ _ _ _ _ _ _ _ _)
      | (with_reducible exact ih1 _ _ _ _ _ _ _ _ _ _ _ _ _)
      | (with_reducible exact ih2 _ _ _ _ _ _)
      | (with_reducible exact ih3 _ _ _ _ _ _)
      | (with_reducible exact ih4 _ _ _ _ _ _ _ _)
      | (with_reducible exact ih5 _ _ _ _ _ _ _ _ _ _ _)
      | (with_reducible exact impl_EndOfPasting.mono _ _ _ _)
      | (with_reducible exact impl_HandsFor.mono _ _ _ _)
      | (with_reducible exact impl_QuickOrder.mono _ _ _ _)
      | (with_reducible exact impl_ShareGores.mono _ _ _)
      | (with_reducible exact impl_StartsOfPasting.mono _ _ _ _)
      | (with_reducible exact laws_f6ints.mono _ _ _)
      | (with_reducible exact laws_f6sum.mono _ _)
      | (with_reducible exact spec_DrawHandsFor.mono _ _)
      | (with_reducible exact spec_DrawShareGores.mono _ _)
      | (with_reducible exact spec_DrawStartsOfPasting.mono _ _)
      | (with_reducible exact spec_EndOfPasting.mono _ _ _ _)
      | (with_reducible exact spec_HandsFor.mono _ _ _ _)
      | (with_reducible exact spec_QuickOrder.mono _ _ _ _)
      | (with_reducible exact spec_ShareGores.mono _ _ _)
      | (with_reducible exact spec_StartsOfPasting.mono _ _ _ _)
      | (with_reducible exact LeO.refl _)
      | (with_reducible exact LeO.none _)
      | (with_reducible refine LeO.ite ?_ ?_)
      | (with_reducible refine LeO.bind ?_ (fun _ => ?_))
      | exact ih0 _ _ _ _ _ _ _ _ _ _ _ _ _ _ _ _ _
      | exact ih1 _ _ _ _ _ _ _ _ _ _ _ _ _
      | exact ih2 _ _ _ _ _ _
      | exact ih3 _ _ _ _ _ _
      | exact ih4 _ _ _ _ _ _ _ _
      | exact ih5 _ _ _ _ _ _ _ _ _ _ _
      | exact impl_EndOfPasting.mono _ _ _ _
      | exact impl_HandsFor.mono _ _ _ _
      | exact impl_QuickOrder.mono _ _ _ _
      | exact impl_ShareGores.mono _ _ _
      | exact impl_StartsOfPasting.mono _ _ _ _
      | exact laws_f6ints.mono _ _ _
      | exact laws_f6sum.mono _ _
      | exact spec_DrawHandsFor.mono _ _
      | exact spec_DrawShareGores.mono _ _
      | exact spec_DrawStartsOfPasting.mono _ _
      | exact spec_EndOfPasting.mono _ _ _ _
      | exact spec_HandsFor.mono _ _ _ _
      | exact spec_QuickOrder.mono _ _ _ _
      | exact spec_ShareGores.mono _ _ _
      | exact spec_StartsOfPasting.mono _ _ _ _
      | exact LeO.none _
      | refine LeO.ite ?_ ?_
      | refine LeO.bind ?_ (fun _ => ?_)
    · intro y0 y1 y2 y3 y4 y5 y6 y7
      unfold laws_FnPasting.j5
      repeat' first
      | (with_reducible exact ih0 _ _ _ _ _ _ _ _ _ _ _ _ _ _ _ _ _)
      | (with_reducible exact ih1 _ _ _ _ _ _ _ _ _ _ _ _ _)
      | (with_reducible exact ih2 _ _ _ _ _ _)
      | (with_reducible exact ih3 _ _ _ _ _ _)
      | (with_reducible exact ih4 _ _ _ _ _ _ _ _)
      | (with_reducible exact ih5 _ _ _ _ _ _ _ _ _ _ _)
      | (with_reducible exact impl_EndOfPasting.mono _ _ _ _)
      | (with_reducible exact impl_HandsFor.mono _ _ _ _)
      | (with_reducible exact impl_QuickOrder.mono _ _ _ _)
      | (with_reducible exact impl_ShareGores.mono _ _ _)
      | (with_reducible exact impl_StartsOfPasting.mono _ _ _ _)
      | (with_reducible exact laws_f6ints.mono _ _ _)
      | (with_reducible exact laws_f6sum.mono _ _)
      | (with_reducible exact spec_DrawHandsFor.mono _ _)
      | (with_reducible exact spec_DrawShareGores.mono _ _)
      | (with_reducible exact spec_DrawStartsOfPasting.mono _ _)
      | (with_reducible exact spec_EndOfPasting.mono _ _ _ _)
      | (with_reducible exact spec_HandsFor.mono _ _ _ _)
      | (with_reducible exact spec_QuickOrder.mono _ _ _ _)
      | (with_reducible exact spec_ShareGores.mono _ _ _)
      | (with_reducible exact spec_StartsOfPasting.mono _ _ _ _)
      | (with_reducible exact LeO.refl _)
      | (with_reducible exact LeO.none _)
      | (with_reducible refine LeO.ite ?_ ?_)
      | (with_reducible refine LeO.bind ?_ (fun _ => ?_))
      | exact ih0 _ _ _ _ _ _ _ _ _ _ _ _ _ _ _ _ _
      | exact ih1 _ _ _ _ _ _ _ _ _ _ _ _ _
      | exact ih2 _ _ _ _ _ _
      | exact ih3 _ _ _ _ _ _
      | exact ih4 _ _ _ _ _ _ _ _
      | exact ih5 _ _ _ _ _ _ _ _ _ _ _
      | exact impl_EndOfPasting.mono _ _ _ _
      | exact impl_HandsFor.mono _ _ _ _
      | exact impl_QuickOrder.mono _ _ _ _
      | exact impl_ShareGores.mono _ _ _
      | exact impl_StartsOfPasting.mono _ _ _ _
      | exact laws_f6ints.mono _ _ _
      | exact laws_f6sum.mono _ _
      | exact spec_DrawHandsFor.mono _ _
      | exact spec_DrawShareGores.mono _ _
      | exact spec_DrawStartsOfPasting.mono _ _
      | exact spec_EndOfPasting.mono _ _ _ _
      | exact spec_HandsFor.mono _ _ _ _
      | exact spec_QuickOrder.mono _ _ _ _
      | exact spec_ShareGores.mono _ _ _
      | exact spec_StartsOfPasting.mono _ _ _ _
      | exact LeO.none _
      | refine LeO.ite ?_ ?_
      | refine LeO.bind ?_ (fun _ => ?_)
    · intro y0 y1 y2 y3 y4 y5 y6 y7 y8 y9 y10
      unfold laws_FnPasting.j2
      repeat' first
      | (with_reducible exact ih0 _ _ _ _ _ _ _ _ _ _ _ _ _ _ _ _ _)
      | (with_reducible exact ih1 _ _ _ _ _ _ _ _ _ _ _ _ _)
      | (with_reducible exact ih2 _ _ _ _ _ _)
      | (with_reducible exact ih3 _ _ _ _ _ _)
      | (with_reducible exact ih4 _ _ _ _ _ _ _ _)
      | (with_reducible exact ih5 _ _ _ _ _ _ _ _ _ _ _)
      | (with_reducible exact impl_EndOfPasting.mono _ _ _ _)
      | (with_reducible exact impl_HandsFor.mono _ _ _ _)
      | (with_reducible exact impl_QuickOrder.mono _ _ _ _)
      | (with_reducible exact impl_ShareGores.mono _ _ _)
      | (with_reducible exact impl_StartsOfPasting.mono _ _ _ _)
      | (with_reducible exact laws_f6ints.mono _ _ _)
      | (with_reducible exact laws_f6sum.mono _ _)
      | (with_reducible exact spec_DrawHandsFor.mono _ _)
      | (with_reducible exact spec_DrawShareGores.mono _ _)
      | (with_reducible exact spec_DrawStartsOfPasting.mono _ _)
      | (with_reducible exact spec_EndOfPasting.mono _ _ _ _)
      | (with_reducible exact spec_HandsFor.mono _ _ _ _)
      | (with_reducible exact spec_QuickOrder.mono _ _ _ _)
      | (with_reducible exact spec_ShareGores.mono _ _ _)
      | (with_reducible exact spec_StartsOfPasting.mono _ _ _ _)
      | (with_reducible exact LeO.refl _)
      | (with_reducible exact LeO.none _)
      | (with_reducible refine LeO.ite ?_ ?_)
      | (with_reducible refine LeO.bind ?_ (fun _ => ?_))
      | exact ih0 _ _ _ _ _ _ _ _ _ _ _ _ _ _ _ _ _
      | exact ih1 _ _ _ _ _ _ _ _ _ _ _ _ _
      | exact ih2 _ _ _ _ _ _
      | exact ih3 _ _ _ _ _ _
      | exact ih4 _ _ _ _ _ _ _ _
      | exact ih5 _ _ _ _ _ _ _ _ _ _ _
      | exact impl_EndOfPasting.mono _ _ _ _
      | exact impl_HandsFor.mono _ _ _ _
      | exact impl_QuickOrder.mono _ _ _ _
      | exact impl_ShareGores.mono _ _ _
      | exact impl_StartsOfPasting.mono _ _ _ _
      | exact laws_f6ints.mono _ _ _
      | exact laws_f6sum.mono _ _
      | exact spec_DrawHandsFor.mono _ _
      | exact spec_DrawShareGores.mono _ _
      | exact spec_DrawStartsOfPasting.mono _ _
      | exact spec_EndOfPasting.mono _ _ _ _
      | exact spec_HandsFor.mono _ _ _ _
      | exact spec_QuickOrder.mono _ _ _ _
      | exact spec_ShareGores.mono _ _ _
      | exact spec_StartsOfPasting.mono _ _ _ _
      | exact LeO.none _
      | refine LeO.ite ?_ ?_
      | refine LeO.bind ?_ (fun _ => ?_)
theorem laws_FnPasting.mono : ∀ a0 k, LeO (laws_FnPasting.f k a0) (laws_FnPasting.f (k + 1) a0) := by
  intro a0 k
  obtain ⟨ih0, ih1, ih2, ih3, ih4, ih5⟩ := laws_FnPasting.mono_l k
  unfold laws_FnPasting.f
  repeat' first
      | (with_reducible exact ih0 _ _ _ _ _ _ _ _ _ _ _ _ _ _ _ _ _)
      | (with_reducible exact ih1 _ _ _ _ _ _ _ _ _ _ _ _ _)
      | (with_reducible exact ih2 _ _ _ _ _ _)
      | (with_reducible exact ih3 _ _ _ _ _ _)
      | (with_reducible exact ih4 _ _ _ _ _ _ _ _)
      | (with_reducible exact ih5 _ _ _ _ _ _ _ _ _ _ _)
      | (with_reducible exact impl_EndOfPasting.mono _ _ _ _)
      | (with_reducible exact impl_HandsFor.mono _ _ _ _)
      | (with_reducible exact impl_QuickOrder.mono _ _ _ _)
      | (with_reducible exact impl_ShareGores.mono _ _ _)
      | (with_reducible exact impl_StartsOfPasting.mono _ _ _ _)
      | (with_reducible exact laws_f6ints.mono _ _ _)
      | (with_reducible exact laws_f6sum.mono _ _)
      | (with_reducible exact spec_DrawHandsFor.mono _ _)
      | (with_reducible exact spec_DrawShareGores.mono _ _)
      | (with_reducible exact spec_DrawStartsOfPasting.mono _ _)
      | (with_reducible exact spec_EndOfPasting.mono _ _ _ _)
      | (with_reducible exact spec_HandsFor.mono _ _ _ _)
      | (with_reducible exact spec_QuickOrder.mono _ _ _ _)
      | (with_reducible exact spec_ShareGores.mono _ _ _)
      | (with_reducible exact spec_StartsOfPasting.mono _ _ _ _)
      | (with_reducible exact LeO.refl _)
      | (with_reducible exact LeO.none _)
      | (with_reducible refine LeO.ite ?_ ?_)
      | (with_reducible refine LeO.bind ?_ (fun _ => ?_))
      | exact ih0 _ _ _ _ _ _ _ _ _ _ _ _ _ _ _ _ _
      | exact ih1 _ _ _ _ _ _ _ _ _ _ _ _ _
      | exact ih2 _ _ _ _ _ _
      | exact ih3 _ _ _ _ _ _
      | exact ih4 _ _ _ _ _ _ _ _
      | exact ih5 _ _ _ _ _ _ _ _ _ _ _
      | exact impl_EndOfPasting.mono _ _ _ _
      | exact impl_HandsFor.mono _ _ _ _
      | exact impl_QuickOrder.mono _ _ _ _
      | exact impl_ShareGores.mono _ _ _
      | exact impl_StartsOfPasting.mono _ _ _ _
      | exact laws_f6ints.mono _ _ _
      | exact laws_f6sum.mono _ _
      | exact spec_DrawHandsFor.mono _ _
      | exact spec_DrawShareGores.mono _ _
      | exact spec_DrawStartsOfPasting.mono _ _
      | exact spec_EndOfPasting.mono _ _ _ _
      | exact spec_HandsFor.mono _ _ _ _
      | exact spec_QuickOrder.mono _ _ _ _
      | exact spec_ShareGores.mono _ _ _
      | exact spec_StartsOfPasting.mono _ _ _ _
      | exact LeO.none _
      | refine LeO.ite ?_ ?_
      | refine LeO.bind ?_ (fun _ => ?_)
set_option maxHeartbeats 8000000 in
set_option maxRecDepth 100000 in
theorem laws_FnPasting.calls (k : Nat) (A0 : Option Addr) (c0 : Nat) (l0 : List Int) (r : Bool) (w : World) (hr0 : Kd.C (Kd.int .u8) w A0 l0.length l0) (hc0 : l0.length ≤ c0) (h : laws_FnPasting.f k l0 = some r) :
    Calls Try.prog 10 #[.slice A0 l0.length c0] w fun e w' => e = .returned (.bool r) ∧ Below w.heap.size w w' := by
  have HR0 := Aside0.mk hr0
  have HC0 := Aside0.mk hc0
  clear hr0 hc0
  have HB := Aside0.mk (Below.refl w.heap.size w)
  have H : ((laws_f6big.f l0).bind fun t384 => (if t384 = true then (some true) else ((spec_DrawStartsOfPasting.f k l0).bind fun bt385 => ((impl_StartsOfPasting.f k bt385.1 bt385.2.1 bt385.2.2).bind fun bt390 => ((spec_StartsOfPasting.f k bt385.1 bt385.2.1 bt385.2.2).bind fun bt394 => ((impl_EndOfPasting.f k bt385.1 bt385.2.1 bt385.2.2).bind fun bt398 => ((spec_EndOfPasting.f k bt385.1 bt385.2.1 bt385.2.2).bind fun bt400 => ((spec_DrawQuickOrder.f l0).bind fun bt402 => ((impl_QuickOrder.f k bt402.1 bt402.2.1 bt402.2.2).bind fun bt405 => ((spec_QuickOrder.f k bt402.1 bt402.2.1 bt402.2.2).bind fun bt410 => ((spec_DrawHandsFor.f k l0).bind fun bt415 => ((impl_HandsFor.f k bt415.1 bt415.2.1 bt415.2.2).bind fun bt418 => ((spec_HandsFor.f k bt415.1 bt415.2.1 bt415.2.2).bind fun bt420 => ((spec_DrawShareGores.f k l0).bind fun bt422 => ((impl_ShareGores.f k bt422.1 bt422.2).bind fun bt424 => ((spec_ShareGores.f k bt422.1 bt422.2).bind fun bt428 => (if bt390.2 = bt394.2 then ((laws_f6ints.f k bt390.1 bt394.1).bind fun t432 => (if t432 = true then (if bt398.2 = bt400.2 then (if bt398.1 = bt400.1 then (if bt405.2.2 = bt410.2.2 then ((laws_f6ints.f k bt405.1 bt410.1).bind fun t433 => (if t433 = true then (if bt405.2.1 = bt410.2.1 then (if bt418.2 = bt420.2 then (if bt418.1 = bt420.1 then (if bt424.2 = bt428.2 then ((laws_f6ints.f k bt424.1 bt428.1).bind fun t434 => (laws_FnPasting.j0 k bt385.1 bt385.2.1 bt385.2.2 bt390.2 bt394.1 bt400.1 bt402.1 bt402.2.1 bt402.2.2 bt405.1 bt405.2.2 bt410.2.1 bt422.1 bt422.2 bt424.2 bt428.1 (!t434))) else (laws_FnPasting.j0 k bt385.1 bt385.2.1 bt385.2.2 bt390.2 bt394.1 bt400.1 bt402.1 bt402.2.1 bt402.2.2 bt405.1 bt405.2.2 bt410.2.1 bt422.1 bt422.2 bt424.2 bt428.1 true)) else (laws_FnPasting.j0 k bt385.1 bt385.2.1 bt385.2.2 bt390.2 bt394.1 bt400.1 bt402.1 bt402.2.1 bt402.2.2 bt405.1 bt405.2.2 bt410.2.1 bt422.1 bt422.2 bt424.2 bt428.1 true)) else (laws_FnPasting.j0 k bt385.1 bt385.2.1 bt385.2.2 bt390.2 bt394.1 bt400.1 bt402.1 bt402.2.1 bt402.2.2 bt405.1 bt405.2.2 bt410.2.1 bt422.1 bt422.2 bt424.2 bt428.1 true)) else (laws_FnPasting.j0 k bt385.1 bt385.2.1 bt385.2.2 bt390.2 bt394.1 bt400.1 bt402.1 bt402.2.1 bt402.2.2 bt405.1 bt405.2.2 bt410.2.1 bt422.1 bt422.2 bt424.2 bt428.1 true)) else (laws_FnPasting.j0 k bt385.1 bt385.2.1 bt385.2.2 bt390.2 bt394.1 bt400.1 bt402.1 bt402.2.1 bt402.2.2 bt405.1 bt405.2.2 bt410.2.1 bt422.1 bt422.2 bt424.2 bt428.1 true))) else (laws_FnPasting.j0 k bt385.1 bt385.2.1 bt385.2.2 bt390.2 bt394.1 bt400.1 bt402.1 bt402.2.1 bt402.2.2 bt405.1 bt405.2.2 bt410.2.1 bt422.1 bt422.2 bt424.2 bt428.1 true)) else (laws_FnPasting.j0 k bt385.1 bt385.2.1 bt385.2.2 bt390.2 bt394.1 bt400.1 bt402.1 bt402.2.1 bt402.2.2 bt405.1 bt405.2.2 bt410.2.1 bt422.1 bt422.2 bt424.2 bt428.1 true)) else (laws_FnPasting.j0 k bt385.1 bt385.2.1 bt385.2.2 bt390.2 bt394.1 bt400.1 bt402.1 bt402.2.1 bt402.2.2 bt405.1 bt405.2.2 bt410.2.1 bt422.1 bt422.2 bt424.2 bt428.1 true)) else (laws_FnPasting.j0 k bt385.1 bt385.2.1 bt385.2.2 bt390.2 bt394.1 bt400.1 bt402.1 bt402.2.1 bt402.2.2 bt405.1 bt405.2.2 bt410.2.1 bt422.1 bt422.2 bt424.2 bt428.1 true))) else (laws_FnPasting.j0 k bt385.1 bt385.2.1 bt385.2.2 bt390.2 bt394.1 bt400.1 bt402.1 bt402.2.1 bt402.2.2 bt405.1 bt405.2.2 bt410.2.1 bt422.1 bt422.2 bt424.2 bt428.1 true)))))))))))))))))) = some r := h
  clear h
  replace H := Option.bind_eq_some_iff.mp H
  obtain ⟨t384, A20, H⟩ := H
  replace H : (if t384 = true then (some true) else ((spec_DrawStartsOfPasting.f k l0).bind fun bt385 => ((impl_StartsOfPasting.f k bt385.1 bt385.2.1 bt385.2.2).bind fun bt390 => ((spec_StartsOfPasting.f k bt385.1 bt385.2.1 bt385.2.2).bind fun bt394 => ((impl_EndOfPasting.f k bt385.1 bt385.2.1 bt385.2.2).bind fun bt398 => ((spec_EndOfPasting.f k bt385.1 bt385.2.1 bt385.2.2).bind fun bt400 => ((spec_DrawQuickOrder.f l0).bind fun bt402 => ((impl_QuickOrder.f k bt402.1 bt402.2.1 bt402.2.2).bind fun bt405 => ((spec_QuickOrder.f k bt402.1 bt402.2.1 bt402.2.2).bind fun bt410 => ((spec_DrawHandsFor.f k l0).bind fun bt415 => ((impl_HandsFor.f k bt415.1 bt415.2.1 bt415.2.2).bind fun bt418 => ((spec_HandsFor.f k bt415.1 bt415.2.1 bt415.2.2).bind fun bt420 => ((spec_DrawShareGores.f k l0).bind fun bt422 => ((impl_ShareGores.f k bt422.1 bt422.2).bind fun bt424 => ((spec_ShareGores.f k bt422.1 bt422.2).bind fun bt428 => (if bt390.2 = bt394.2 then ((laws_f6ints.f k bt390.1 bt394.1).bind fun t432 => (if t432 = true then (if bt398.2 = bt400.2 then (if bt398.1 = bt400.1 then (if bt405.2.2 = bt410.2.2 then ((laws_f6ints.f k bt405.1 bt410.1).bind fun t433 => (if t433 = true then (if bt405.2.1 = bt410.2.1 then (if bt418.2 = bt420.2 then (if bt418.1 = bt420.1 then (if bt424.2 = bt428.2 then ((laws_f6ints.f k bt424.1 bt428.1).bind fun t434 => (laws_FnPasting.j0 k bt385.1 bt385.2.1 bt385.2.2 bt390.2 bt394.1 bt400.1 bt402.1 bt402.2.1 bt402.2.2 bt405.1 bt405.2.2 bt410.2.1 bt422.1 bt422.2 bt424.2 bt428.1 (!t434))) else (laws_FnPasting.j0 k bt385.1 bt385.2.1 bt385.2.2 bt390.2 bt394.1 bt400.1 bt402.1 bt402.2.1 bt402.2.2 bt405.1 bt405.2.2 bt410.2.1 bt422.1 bt422.2 bt424.2 bt428.1 true)) else (laws_FnPasting.j0 k bt385.1 bt385.2.1 bt385.2.2 bt390.2 bt394.1 bt400.1 bt402.1 bt402.2.1 bt402.2.2 bt405.1 bt405.2.2 bt410.2.1 bt422.1 bt422.2 bt424.2 bt428.1 true)) else (laws_FnPasting.j0 k bt385.1 bt385.2.1 bt385.2.2 bt390.2 bt394.1 bt400.1 bt402.1 bt402.2.1 bt402.2.2 bt405.1 bt405.2.2 bt410.2.1 bt422.1 bt422.2 bt424.2 bt428.1 true)) else (laws_FnPasting.j0 k bt385.1 bt385.2.1 bt385.2.2 bt390.2 bt394.1 bt400.1 bt402.1 bt402.2.1 bt402.2.2 bt405.1 bt405.2.2 bt410.2.1 bt422.1 bt422.2 bt424.2 bt428.1 true)) else (laws_FnPasting.j0 k bt385.1 bt385.2.1 bt385.2.2 bt390.2 bt394.1 bt400.1 bt402.1 bt402.2.1 bt402.2.2 bt405.1 bt405.2.2 bt410.2.1 bt422.1 bt422.2 bt424.2 bt428.1 true))) else (laws_FnPasting.j0 k bt385.1 bt385.2.1 bt385.2.2 bt390.2 bt394.1 bt400.1 bt402.1 bt402.2.1 bt402.2.2 bt405.1 bt405.2.2 bt410.2.1 bt422.1 bt422.2 bt424.2 bt428.1 true)) else (laws_FnPasting.j0 k bt385.1 bt385.2.1 bt385.2.2 bt390.2 bt394.1 bt400.1 bt402.1 bt402.2.1 bt402.2.2 bt405.1 bt405.2.2 bt410.2.1 bt422.1 bt422.2 bt424.2 bt428.1 true)) else (laws_FnPasting.j0 k bt385.1 bt385.2.1 bt385.2.2 bt390.2 bt394.1 bt400.1 bt402.1 bt402.2.1 bt402.2.2 bt405.1 bt405.2.2 bt410.2.1 bt422.1 bt422.2 bt424.2 bt428.1 true)) else (laws_FnPasting.j0 k bt385.1 bt385.2.1 bt385.2.2 bt390.2 bt394.1 bt400.1 bt402.1 bt402.2.1 bt402.2.2 bt405.1 bt405.2.2 bt410.2.1 bt422.1 bt422.2 bt424.2 bt428.1 true))) else (laws_FnPasting.j0 k bt385.1 bt385.2.1 bt385.2.2 bt390.2 bt394.1 bt400.1 bt402.1 bt402.2.1 bt402.2.2 bt405.1 bt405.2.2 bt410.2.1 bt422.1 bt422.2 bt424.2 bt428.1 true))))))))))))))))) = some r := H
  have A2 := Aside0.mk A20
  clear A20
  by_cases c3 : t384 = true
  · as_aux_lemma =>
    subst c3
    have H1 : (some true) = some r := by rw [if_pos rfl] at H; exact H
    clear H
    have H := H1
    clear H1
    obtain rfl := Option.some.inj H
    go_enter Try.func10, Try.ntmps10
    go_wp2_with (first | ((with_reducible refine gate_callee (f := 29) rfl ?_); refine goesL_ (some 43) rfl rfl Try.func29 (by kernel_rfl) rfl #[.slice A0 l0.length c0] rfl (by (try simp only [List.map_toArray, List.map_cons, List.map_nil]); first | done | rfl | (simp only [List.length_drop, List.length_take]; rfl)) ?_; (with_reducible refine (laws_f6big.calls _ _ l0 true _ ?side1 ?side2 A2.out).mono ?_); (case side1 => repeat (first | exact HR0.out | (with_reducible refine Kd.C_alloc ?_ _) | (with_reducible refine Kd.C_drewN ?_ _) | (with_reducible refine Kd.C_drew ?_))); (case side2 => exact HC0.out); rintro e w' ⟨rfl, ⟨nd, rfl⟩⟩; refine ⟨_, rfl, ?_⟩))
    go_ret
    exact ⟨by first | rfl | (simp [errW_none, errW_some] <;> rfl) | (simp [*, errW_none, errW_some] <;> rfl), by repeat (first | (with_reducible first | exact HB.out | apply below_alloc | apply pw_below_drewN | apply below_drew1) | exact HB.out)⟩
  · as_aux_lemma =>
    replace c3 := Bool.eq_false_iff.mpr c3
    subst c3
    have H1 : ((spec_DrawStartsOfPasting.f k l0).bind fun bt385 => ((impl_StartsOfPasting.f k bt385.1 bt385.2.1 bt385.2.2).bind fun bt390 => ((spec_StartsOfPasting.f k bt385.1 bt385.2.1 bt385.2.2).bind fun bt394 => ((impl_EndOfPasting.f k bt385.1 bt385.2.1 bt385.2.2).bind fun bt398 => ((spec_EndOfPasting.f k bt385.1 bt385.2.1 bt385.2.2).bind fun bt400 => ((spec_DrawQuickOrder.f l0).bind fun bt402 => ((impl_QuickOrder.f k bt402.1 bt402.2.1 bt402.2.2).bind fun bt405 => ((spec_QuickOrder.f k bt402.1 bt402.2.1 bt402.2.2).bind fun bt410 => ((spec_DrawHandsFor.f k l0).bind fun bt415 => ((impl_HandsFor.f k bt415.1 bt415.2.1 bt415.2.2).bind fun bt418 => ((spec_HandsFor.f k bt415.1 bt415.2.1 bt415.2.2).bind fun bt420 => ((spec_DrawShareGores.f k l0).bind fun bt422 => ((impl_ShareGores.f k bt422.1 bt422.2).bind fun bt424 => ((spec_ShareGores.f k bt422.1 bt422.2).bind fun bt428 => (if bt390.2 = bt394.2 then ((laws_f6ints.f k bt390.1 bt394.1).bind fun t432 => (if t432 = true then (if bt398.2 = bt400.2 then (if bt398.1 = bt400.1 then (if bt405.2.2 = bt410.2.2 then ((laws_f6ints.f k bt405.1 bt410.1).bind fun t433 => (if t433 = true then (if bt405.2.1 = bt410.2.1 then (if bt418.2 = bt420.2 then (if bt418.1 = bt420.1 then (if bt424.2 = bt428.2 then ((laws_f6ints.f k bt424.1 bt428.1).bind fun t434 => (laws_FnPasting.j0 k bt385.1 bt385.2.1 bt385.2.2 bt390.2 bt394.1 bt400.1 bt402.1 bt402.2.1 bt402.2.2 bt405.1 bt405.2.2 bt410.2.1 bt422.1 bt422.2 bt424.2 bt428.1 (!t434))) else (laws_FnPasting.j0 k bt385.1 bt385.2.1 bt385.2.2 bt390.2 bt394.1 bt400.1 bt402.1 bt402.2.1 bt402.2.2 bt405.1 bt405.2.2 bt410.2.1 bt422.1 bt422.2 bt424.2 bt428.1 true)) else (laws_FnPasting.j0 k bt385.1 bt385.2.1 bt385.2.2 bt390.2 bt394.1 bt400.1 bt402.1 bt402.2.1 bt402.2.2 bt405.1 bt405.2.2 bt410.2.1 bt422.1 bt422.2 bt424.2 bt428.1 true)) else (laws_FnPasting.j0 k bt385.1 bt385.2.1 bt385.2.2 bt390.2 bt394.1 bt400.1 bt402.1 bt402.2.1 bt402.2.2 bt405.1 bt405.2.2 bt410.2.1 bt422.1 bt422.2 bt424.2 bt428.1 true)) else (laws_FnPasting.j0 k bt385.1 bt385.2.1 bt385.2.2 bt390.2 bt394.1 bt400.1 bt402.1 bt402.2.1 bt402.2.2 bt405.1 bt405.2.2 bt410.2.1 bt422.1 bt422.2 bt424.2 bt428.1 true)) else (laws_FnPasting.j0 k bt385.1 bt385.2.1 bt385.2.2 bt390.2 bt394.1 bt400.1 bt402.1 bt402.2.1 bt402.2.2 bt405.1 bt405.2.2 bt410.2.1 bt422.1 bt422.2 bt424.2 bt428.1 true))) else (laws_FnPasting.j0 k bt385.1 bt385.2.1 bt385.2.2 bt390.2 bt394.1 bt400.1 bt402.1 bt402.2.1 bt402.2.2 bt405.1 bt405.2.2 bt410.2.1 bt422.1 bt422.2 bt424.2 bt428.1 true)) else (laws_FnPasting.j0 k bt385.1 bt385.2.1 bt385.2.2 bt390.2 bt394.1 bt400.1 bt402.1 bt402.2.1 bt402.2.2 bt405.1 bt405.2.2 bt410.2.1 bt422.1 bt422.2 bt424.2 bt428.1 true)) else (laws_FnPasting.j0 k bt385.1 bt385.2.1 bt385.2.2 bt390.2 bt394.1 bt400.1 bt402.1 bt402.2.1 bt402.2.2 bt405.1 bt405.2.2 bt410.2.1 bt422.1 bt422.2 bt424.2 bt428.1 true)) else (laws_FnPasting.j0 k bt385.1 bt385.2.1 bt385.2.2 bt390.2 bt394.1 bt400.1 bt402.1 bt402.2.1 bt402.2.2 bt405.1 bt405.2.2 bt410.2.1 bt422.1 bt422.2 bt424.2 bt428.1 true))) else (laws_FnPasting.j0 k bt385.1 bt385.2.1 bt385.2.2 bt390.2 bt394.1 bt400.1 bt402.1 bt402.2.1 bt402.2.2 bt405.1 bt405.2.2 bt410.2.1 bt422.1 bt422.2 bt424.2 bt428.1 true)))))))))))))))) = some r := by rw [if_neg (show ¬ (false = true) by decide)] at H; exact H
    clear H
    have H := H1
    clear H1
    replace H := Option.bind_eq_some_iff.mp H
    obtain ⟨⟨t385, t386, t387⟩, A40, H⟩ := H
    replace H : ((impl_StartsOfPasting.f k t385 t386 t387).bind fun bt390 => ((spec_StartsOfPasting.f k t385 t386 t387).bind fun bt394 => ((impl_EndOfPasting.f k t385 t386 t387).bind fun bt398 => ((spec_EndOfPasting.f k t385 t386 t387).bind fun bt400 => ((spec_DrawQuickOrder.f l0).bind fun bt402 => ((impl_QuickOrder.f k bt402.1 bt402.2.1 bt402.2.2).bind fun bt405 => ((spec_QuickOrder.f k bt402.1 bt402.2.1 bt402.2.2).bind fun bt410 => ((spec_DrawHandsFor.f k l0).bind fun bt415 => ((impl_HandsFor.f k bt415.1 bt415.2.1 bt415.2.2).bind fun bt418 => ((spec_HandsFor.f k bt415.1 bt415.2.1 bt415.2.2).bind fun bt420 => ((spec_DrawShareGores.f k l0).bind fun bt422 => ((impl_ShareGores.f k bt422.1 bt422.2).bind fun bt424 => ((spec_ShareGores.f k bt422.1 bt422.2).bind fun bt428 => (if bt390.2 = bt394.2 then ((laws_f6ints.f k bt390.1 bt394.1).bind fun t432 => (if t432 = true then (if bt398.2 = bt400.2 then (if bt398.1 = bt400.1 then (if bt405.2.2 = bt410.2.2 then ((laws_f6ints.f k bt405.1 bt410.1).bind fun t433 => (if t433 = true then (if bt405.2.1 = bt410.2.1 then (if bt418.2 = bt420.2 then (if bt418.1 = bt420.1 then (if bt424.2 = bt428.2 then ((laws_f6ints.f k bt424.1 bt428.1).bind fun t434 => (laws_FnPasting.j0 k t385 t386 t387 bt390.2 bt394.1 bt400.1 bt402.1 bt402.2.1 bt402.2.2 bt405.1 bt405.2.2 bt410.2.1 bt422.1 bt422.2 bt424.2 bt428.1 (!t434))) else (laws_FnPasting.j0 k t385 t386 t387 bt390.2 bt394.1 bt400.1 bt402.1 bt402.2.1 bt402.2.2 bt405.1 bt405.2.2 bt410.2.1 bt422.1 bt422.2 bt424.2 bt428.1 true)) else (laws_FnPasting.j0 k t385 t386 t387 bt390.2 bt394.1 bt400.1 bt402.1 bt402.2.1 bt402.2.2 bt405.1 bt405.2.2 bt410.2.1 bt422.1 bt422.2 bt424.2 bt428.1 true)) else (laws_FnPasting.j0 k t385 t386 t387 bt390.2 bt394.1 bt400.1 bt402.1 bt402.2.1 bt402.2.2 bt405.1 bt405.2.2 bt410.2.1 bt422.1 bt422.2 bt424.2 bt428.1 true)) else (laws_FnPasting.j0 k t385 t386 t387 bt390.2 bt394.1 bt400.1 bt402.1 bt402.2.1 bt402.2.2 bt405.1 bt405.2.2 bt410.2.1 bt422.1 bt422.2 bt424.2 bt428.1 true)) else (laws_FnPasting.j0 k t385 t386 t387 bt390.2 bt394.1 bt400.1 bt402.1 bt402.2.1 bt402.2.2 bt405.1 bt405.2.2 bt410.2.1 bt422.1 bt422.2 bt424.2 bt428.1 true))) else (laws_FnPasting.j0 k t385 t386 t387 bt390.2 bt394.1 bt400.1 bt402.1 bt402.2.1 bt402.2.2 bt405.1 bt405.2.2 bt410.2.1 bt422.1 bt422.2 bt424.2 bt428.1 true)) else (laws_FnPasting.j0 k t385 t386 t387 bt390.2 bt394.1 bt400.1 bt402.1 bt402.2.1 bt402.2.2 bt405.1 bt405.2.2 bt410.2.1 bt422.1 bt422.2 bt424.2 bt428.1 true)) else (laws_FnPasting.j0 k t385 t386 t387 bt390.2 bt394.1 bt400.1 bt402.1 bt402.2.1 bt402.2.2 bt405.1 bt405.2.2 bt410.2.1 bt422.1 bt422.2 bt424.2 bt428.1 true)) else (laws_FnPasting.j0 k t385 t386 t387 bt390.2 bt394.1 bt400.1 bt402.1 bt402.2.1 bt402.2.2 bt405.1 bt405.2.2 bt410.2.1 bt422.1 bt422.2 bt424.2 bt428.1 true))) else (laws_FnPasting.j0 k t385 t386 t387 bt390.2 bt394.1 bt400.1 bt402.1 bt402.2.1 bt402.2.2 bt405.1 bt405.2.2 bt410.2.1 bt422.1 bt422.2 bt424.2 bt428.1 true))))))))))))))) = some r := H
    have A4 := Aside0.mk A40
    clear A40
    replace H := Option.bind_eq_some_iff.mp H
    obtain ⟨⟨t390, t391⟩, A50, H⟩ := H
    replace H : ((spec_StartsOfPasting.f k t385 t386 t387).bind fun bt394 => ((impl_EndOfPasting.f k t385 t386 t387).bind fun bt398 => ((spec_EndOfPasting.f k t385 t386 t387).bind fun bt400 => ((spec_DrawQuickOrder.f l0).bind fun bt402 => ((impl_QuickOrder.f k bt402.1 bt402.2.1 bt402.2.2).bind fun bt405 => ((spec_QuickOrder.f k bt402.1 bt402.2.1 bt402.2.2).bind fun bt410 => ((spec_DrawHandsFor.f k l0).bind fun bt415 => ((impl_HandsFor.f k bt415.1 bt415.2.1 bt415.2.2).bind fun bt418 => ((spec_HandsFor.f k bt415.1 bt415.2.1 bt415.2.2).bind fun bt420 => ((spec_DrawShareGores.f k l0).bind fun bt422 => ((impl_ShareGores.f k bt422.1 bt422.2).bind fun bt424 => ((spec_ShareGores.f k bt422.1 bt422.2).bind fun bt428 => (if t391 = bt394.2 then ((laws_f6ints.f k t390 bt394.1).bind fun t432 => (if t432 = true then (if bt398.2 = bt400.2 then (if bt398.1 = bt400.1 then (if bt405.2.2 = bt410.2.2 then ((laws_f6ints.f k bt405.1 bt410.1).bind fun t433 => (if t433 = true then (if bt405.2.1 = bt410.2.1 then (if bt418.2 = bt420.2 then (if bt418.1 = bt420.1 then (if bt424.2 = bt428.2 then ((laws_f6ints.f k bt424.1 bt428.1).bind fun t434 => (laws_FnPasting.j0 k t385 t386 t387 t391 bt394.1 bt400.1 bt402.1 bt402.2.1 bt402.2.2 bt405.1 bt405.2.2 bt410.2.1 bt422.1 bt422.2 bt424.2 bt428.1 (!t434))) else (laws_FnPasting.j0 k t385 t386 t387 t391 bt394.1 bt400.1 bt402.1 bt402.2.1 bt402.2.2 bt405.1 bt405.2.2 bt410.2.1 bt422.1 bt422.2 bt424.2 bt428.1 true)) else (laws_FnPasting.j0 k t385 t386 t387 t391 bt394.1 bt400.1 bt402.1 bt402.2.1 bt402.2.2 bt405.1 bt405.2.2 bt410.2.1 bt422.1 bt422.2 bt424.2 bt428.1 true)) else (laws_FnPasting.j0 k t385 t386 t387 t391 bt394.1 bt400.1 bt402.1 bt402.2.1 bt402.2.2 bt405.1 bt405.2.2 bt410.2.1 bt422.1 bt422.2 bt424.2 bt428.1 true)) else (laws_FnPasting.j0 k t385 t386 t387 t391 bt394.1 bt400.1 bt402.1 bt402.2.1 bt402.2.2 bt405.1 bt405.2.2 bt410.2.1 bt422.1 bt422.2 bt424.2 bt428.1 true)) else (laws_FnPasting.j0 k t385 t386 t387 t391 bt394.1 bt400.1 bt402.1 bt402.2.1 bt402.2.2 bt405.1 bt405.2.2 bt410.2.1 bt422.1 bt422.2 bt424.2 bt428.1 true))) else (laws_FnPasting.j0 k t385 t386 t387 t391 bt394.1 bt400.1 bt402.1 bt402.2.1 bt402.2.2 bt405.1 bt405.2.2 bt410.2.1 bt422.1 bt422.2 bt424.2 bt428.1 true)) else (laws_FnPasting.j0 k t385 t386 t387 t391 bt394.1 bt400.1 bt402.1 bt402.2.1 bt402.2.2 bt405.1 bt405.2.2 bt410.2.1 bt422.1 bt422.2 bt424.2 bt428.1 true)) else (laws_FnPasting.j0 k t385 t386 t387 t391 bt394.1 bt400.1 bt402.1 bt402.2.1 bt402.2.2 bt405.1 bt405.2.2 bt410.2.1 bt422.1 bt422.2 bt424.2 bt428.1 true)) else (laws_FnPasting.j0 k t385 t386 t387 t391 bt394.1 bt400.1 bt402.1 bt402.2.1 bt402.2.2 bt405.1 bt405.2.2 bt410.2.1 bt422.1 bt422.2 bt424.2 bt428.1 true))) else (laws_FnPasting.j0 k t385 t386 t387 t391 bt394.1 bt400.1 bt402.1 bt402.2.1 bt402.2.2 bt405.1 bt405.2.2 bt410.2.1 bt422.1 bt422.2 bt424.2 bt428.1 true)))))))))))))) = some r := H
    have A5 := Aside0.mk A50
    clear A50
    replace H := Option.bind_eq_some_iff.mp H
    obtain ⟨⟨t394, t395⟩, A60, H⟩ := H
    replace H : ((impl_EndOfPasting.f k t385 t386 t387).bind fun bt398 => ((spec_EndOfPasting.f k t385 t386 t387).bind fun bt400 => ((spec_DrawQuickOrder.f l0).bind fun bt402 => ((impl_QuickOrder.f k bt402.1 bt402.2.1 bt402.2.2).bind fun bt405 => ((spec_QuickOrder.f k bt402.1 bt402.2.1 bt402.2.2).bind fun bt410 => ((spec_DrawHandsFor.f k l0).bind fun bt415 => ((impl_HandsFor.f k bt415.1 bt415.2.1 bt415.2.2).bind fun bt418 => ((spec_HandsFor.f k bt415.1 bt415.2.1 bt415.2.2).bind fun bt420 => ((spec_DrawShareGores.f k l0).bind fun bt422 => ((impl_ShareGores.f k bt422.1 bt422.2).bind fun bt424 => ((spec_ShareGores.f k bt422.1 bt422.2).bind fun bt428 => (if t391 = t395 then ((laws_f6ints.f k t390 t394).bind fun t432 => (if t432 = true then (if bt398.2 = bt400.2 then (if bt398.1 = bt400.1 then (if bt405.2.2 = bt410.2.2 then ((laws_f6ints.f k bt405.1 bt410.1).bind fun t433 => (if t433 = true then (if bt405.2.1 = bt410.2.1 then (if bt418.2 = bt420.2 then (if bt418.1 = bt420.1 then (if bt424.2 = bt428.2 then ((laws_f6ints.f k bt424.1 bt428.1).bind fun t434 => (laws_FnPasting.j0 k t385 t386 t387 t391 t394 bt400.1 bt402.1 bt402.2.1 bt402.2.2 bt405.1 bt405.2.2 bt410.2.1 bt422.1 bt422.2 bt424.2 bt428.1 (!t434))) else (laws_FnPasting.j0 k t385 t386 t387 t391 t394 bt400.1 bt402.1 bt402.2.1 bt402.2.2 bt405.1 bt405.2.2 bt410.2.1 bt422.1 bt422.2 bt424.2 bt428.1 true)) else (laws_FnPasting.j0 k t385 t386 t387 t391 t394 bt400.1 bt402.1 bt402.2.1 bt402.2.2 bt405.1 bt405.2.2 bt410.2.1 bt422.1 bt422.2 bt424.2 bt428.1 true)) else (laws_FnPasting.j0 k t385 t386 t387 t391 t394 bt400.1 bt402.1 bt402.2.1 bt402.2.2 bt405.1 bt405.2.2 bt410.2.1 bt422.1 bt422.2 bt424.2 bt428.1 true)) else (laws_FnPasting.j0 k t385 t386 t387 t391 t394 bt400.1 bt402.1 bt402.2.1 bt402.2.2 bt405.1 bt405.2.2 bt410.2.1 bt422.1 bt422.2 bt424.2 bt428.1 true)) else (laws_FnPasting.j0 k t385 t386 t387 t391 t394 bt400.1 bt402.1 bt402.2.1 bt402.2.2 bt405.1 bt405.2.2 bt410.2.1 bt422.1 bt422.2 bt424.2 bt428.1 true))) else (laws_FnPasting.j0 k t385 t386 t387 t391 t394 bt400.1 bt402.1 bt402.2.1 bt402.2.2 bt405.1 bt405.2.2 bt410.2.1 bt422.1 bt422.2 bt424.2 bt428.1 true)) else (laws_FnPasting.j0 k t385 t386 t387 t391 t394 bt400.1 bt402.1 bt402.2.1 bt402.2.2 bt405.1 bt405.2.2 bt410.2.1 bt422.1 bt422.2 bt424.2 bt428.1 true)) else (laws_FnPasting.j0 k t385 t386 t387 t391 t394 bt400.1 bt402.1 bt402.2.1 bt402.2.2 bt405.1 bt405.2.2 bt410.2.1 bt422.1 bt422.2 bt424.2 bt428.1 true)) else (laws_FnPasting.j0 k t385 t386 t387 t391 t394 bt400.1 bt402.1 bt402.2.1 bt402.2.2 bt405.1 bt405.2.2 bt410.2.1 bt422.1 bt422.2 bt424.2 bt428.1 true))) else (laws_FnPasting.j0 k t385 t386 t387 t391 t394 bt400.1 bt402.1 bt402.2.1 bt402.2.2 bt405.1 bt405.2.2 bt410.2.1 bt422.1 bt422.2 bt424.2 bt428.1 true))))))))))))) = some r := H
    have A6 := Aside0.mk A60
    clear A60
    replace H := Option.bind_eq_some_iff.mp H
    obtain ⟨⟨t398, t399⟩, A70, H⟩ := H
    replace H : ((spec_EndOfPasting.f k t385 t386 t387).bind fun bt400 => ((spec_DrawQuickOrder.f l0).bind fun bt402 => ((impl_QuickOrder.f k bt402.1 bt402.2.1 bt402.2.2).bind fun bt405 => ((spec_QuickOrder.f k bt402.1 bt402.2.1 bt402.2.2).bind fun bt410 => ((spec_DrawHandsFor.f k l0).bind fun bt415 => ((impl_HandsFor.f k bt415.1 bt415.2.1 bt415.2.2).bind fun bt418 => ((spec_HandsFor.f k bt415.1 bt415.2.1 bt415.2.2).bind fun bt420 => ((spec_DrawShareGores.f k l0).bind fun bt422 => ((impl_ShareGores.f k bt422.1 bt422.2).bind fun bt424 => ((spec_ShareGores.f k bt422.1 bt422.2).bind fun bt428 => (if t391 = t395 then ((laws_f6ints.f k t390 t394).bind fun t432 => (if t432 = true then (if t399 = bt400.2 then (if t398 = bt400.1 then (if bt405.2.2 = bt410.2.2 then ((laws_f6ints.f k bt405.1 bt410.1).bind fun t433 => (if t433 = true then (if bt405.2.1 = bt410.2.1 then (if bt418.2 = bt420.2 then (if bt418.1 = bt420.1 then (if bt424.2 = bt428.2 then ((laws_f6ints.f k bt424.1 bt428.1).bind fun t434 => (laws_FnPasting.j0 k t385 t386 t387 t391 t394 bt400.1 bt402.1 bt402.2.1 bt402.2.2 bt405.1 bt405.2.2 bt410.2.1 bt422.1 bt422.2 bt424.2 bt428.1 (!t434))) else (laws_FnPasting.j0 k t385 t386 t387 t391 t394 bt400.1 bt402.1 bt402.2.1 bt402.2.2 bt405.1 bt405.2.2 bt410.2.1 bt422.1 bt422.2 bt424.2 bt428.1 true)) else (laws_FnPasting.j0 k t385 t386 t387 t391 t394 bt400.1 bt402.1 bt402.2.1 bt402.2.2 bt405.1 bt405.2.2 bt410.2.1 bt422.1 bt422.2 bt424.2 bt428.1 true)) else (laws_FnPasting.j0 k t385 t386 t387 t391 t394 bt400.1 bt402.1 bt402.2.1 bt402.2.2 bt405.1 bt405.2.2 bt410.2.1 bt422.1 bt422.2 bt424.2 bt428.1 true)) else (laws_FnPasting.j0 k t385 t386 t387 t391 t394 bt400.1 bt402.1 bt402.2.1 bt402.2.2 bt405.1 bt405.2.2 bt410.2.1 bt422.1 bt422.2 bt424.2 bt428.1 true)) else (laws_FnPasting.j0 k t385 t386 t387 t391 t394 bt400.1 bt402.1 bt402.2.1 bt402.2.2 bt405.1 bt405.2.2 bt410.2.1 bt422.1 bt422.2 bt424.2 bt428.1 true))) else (laws_FnPasting.j0 k t385 t386 t387 t391 t394 bt400.1 bt402.1 bt402.2.1 bt402.2.2 bt405.1 bt405.2.2 bt410.2.1 bt422.1 bt422.2 bt424.2 bt428.1 true)) else (laws_FnPasting.j0 k t385 t386 t387 t391 t394 bt400.1 bt402.1 bt402.2.1 bt402.2.2 bt405.1 bt405.2.2 bt410.2.1 bt422.1 bt422.2 bt424.2 bt428.1 true)) else (laws_FnPasting.j0 k t385 t386 t387 t391 t394 bt400.1 bt402.1 bt402.2.1 bt402.2.2 bt405.1 bt405.2.2 bt410.2.1 bt422.1 bt422.2 bt424.2 bt428.1 true)) else (laws_FnPasting.j0 k t385 t386 t387 t391 t394 bt400.1 bt402.1 bt402.2.1 bt402.2.2 bt405.1 bt405.2.2 bt410.2.1 bt422.1 bt422.2 bt424.2 bt428.1 true))) else (laws_FnPasting.j0 k t385 t386 t387 t391 t394 bt400.1 bt402.1 bt402.2.1 bt402.2.2 bt405.1 bt405.2.2 bt410.2.1 bt422.1 bt422.2 bt424.2 bt428.1 true)))))))))))) = some r := H
    have A7 := Aside0.mk A70
    clear A70
    replace H := Option.bind_eq_some_iff.mp H
    obtain ⟨⟨t400, t401⟩, A80, H⟩ := H
    replace H : ((spec_DrawQuickOrder.f l0).bind fun bt402 => ((impl_QuickOrder.f k bt402.1 bt402.2.1 bt402.2.2).bind fun bt405 => ((spec_QuickOrder.f k bt402.1 bt402.2.1 bt402.2.2).bind fun bt410 => ((spec_DrawHandsFor.f k l0).bind fun bt415 => ((impl_HandsFor.f k bt415.1 bt415.2.1 bt415.2.2).bind fun bt418 => ((spec_HandsFor.f k bt415.1 bt415.2.1 bt415.2.2).bind fun bt420 => ((spec_DrawShareGores.f k l0).bind fun bt422 => ((impl_ShareGores.f k bt422.1 bt422.2).bind fun bt424 => ((spec_ShareGores.f k bt422.1 bt422.2).bind fun bt428 => (if t391 = t395 then ((laws_f6ints.f k t390 t394).bind fun t432 => (if t432 = true then (if t399 = t401 then (if t398 = t400 then (if bt405.2.2 = bt410.2.2 then ((laws_f6ints.f k bt405.1 bt410.1).bind fun t433 => (if t433 = true then (if bt405.2.1 = bt410.2.1 then (if bt418.2 = bt420.2 then (if bt418.1 = bt420.1 then (if bt424.2 = bt428.2 then ((laws_f6ints.f k bt424.1 bt428.1).bind fun t434 => (laws_FnPasting.j0 k t385 t386 t387 t391 t394 t400 bt402.1 bt402.2.1 bt402.2.2 bt405.1 bt405.2.2 bt410.2.1 bt422.1 bt422.2 bt424.2 bt428.1 (!t434))) else (laws_FnPasting.j0 k t385 t386 t387 t391 t394 t400 bt402.1 bt402.2.1 bt402.2.2 bt405.1 bt405.2.2 bt410.2.1 bt422.1 bt422.2 bt424.2 bt428.1 true)) else (laws_FnPasting.j0 k t385 t386 t387 t391 t394 t400 bt402.1 bt402.2.1 bt402.2.2 bt405.1 bt405.2.2 bt410.2.1 bt422.1 bt422.2 bt424.2 bt428.1 true)) else (laws_FnPasting.j0 k t385 t386 t387 t391 t394 t400 bt402.1 bt402.2.1 bt402.2.2 bt405.1 bt405.2.2 bt410.2.1 bt422.1 bt422.2 bt424.2 bt428.1 true)) else (laws_FnPasting.j0 k t385 t386 t387 t391 t394 t400 bt402.1 bt402.2.1 bt402.2.2 bt405.1 bt405.2.2 bt410.2.1 bt422.1 bt422.2 bt424.2 bt428.1 true)) else (laws_FnPasting.j0 k t385 t386 t387 t391 t394 t400 bt402.1 bt402.2.1 bt402.2.2 bt405.1 bt405.2.2 bt410.2.1 bt422.1 bt422.2 bt424.2 bt428.1 true))) else (laws_FnPasting.j0 k t385 t386 t387 t391 t394 t400 bt402.1 bt402.2.1 bt402.2.2 bt405.1 bt405.2.2 bt410.2.1 bt422.1 bt422.2 bt424.2 bt428.1 true)) else (laws_FnPasting.j0 k t385 t386 t387 t391 t394 t400 bt402.1 bt402.2.1 bt402.2.2 bt405.1 bt405.2.2 bt410.2.1 bt422.1 bt422.2 bt424.2 bt428.1 true)) else (laws_FnPasting.j0 k t385 t386 t387 t391 t394 t400 bt402.1 bt402.2.1 bt402.2.2 bt405.1 bt405.2.2 bt410.2.1 bt422.1 bt422.2 bt424.2 bt428.1 true)) else (laws_FnPasting.j0 k t385 t386 t387 t391 t394 t400 bt402.1 bt402.2.1 bt402.2.2 bt405.1 bt405.2.2 bt410.2.1 bt422.1 bt422.2 bt424.2 bt428.1 true))) else (laws_FnPasting.j0 k t385 t386 t387 t391 t394 t400 bt402.1 bt402.2.1 bt402.2.2 bt405.1 bt405.2.2 bt410.2.1 bt422.1 bt422.2 bt424.2 bt428.1 true))))))))))) = some r := H
    have A8 := Aside0.mk A80
    clear A80
    replace H := Option.bind_eq_some_iff.mp H
    obtain ⟨⟨t402, t403, t404⟩, A90, H⟩ := H
    replace H : ((impl_QuickOrder.f k t402 t403 t404).bind fun bt405 => ((spec_QuickOrder.f k t402 t403 t404).bind fun bt410 => ((spec_DrawHandsFor.f k l0).bind fun bt415 => ((impl_HandsFor.f k bt415.1 bt415.2.1 bt415.2.2).bind fun bt418 => ((spec_HandsFor.f k bt415.1 bt415.2.1 bt415.2.2).bind fun bt420 => ((spec_DrawShareGores.f k l0).bind fun bt422 => ((impl_ShareGores.f k bt422.1 bt422.2).bind fun bt424 => ((spec_ShareGores.f k bt422.1 bt422.2).bind fun bt428 => (if t391 = t395 then ((laws_f6ints.f k t390 t394).bind fun t432 => (if t432 = true then (if t399 = t401 then (if t398 = t400 then (if bt405.2.2 = bt410.2.2 then ((laws_f6ints.f k bt405.1 bt410.1).bind fun t433 => (if t433 = true then (if bt405.2.1 = bt410.2.1 then (if bt418.2 = bt420.2 then (if bt418.1 = bt420.1 then (if bt424.2 = bt428.2 then ((laws_f6ints.f k bt424.1 bt428.1).bind fun t434 => (laws_FnPasting.j0 k t385 t386 t387 t391 t394 t400 t402 t403 t404 bt405.1 bt405.2.2 bt410.2.1 bt422.1 bt422.2 bt424.2 bt428.1 (!t434))) else (laws_FnPasting.j0 k t385 t386 t387 t391 t394 t400 t402 t403 t404 bt405.1 bt405.2.2 bt410.2.1 bt422.1 bt422.2 bt424.2 bt428.1 true)) else (laws_FnPasting.j0 k t385 t386 t387 t391 t394 t400 t402 t403 t404 bt405.1 bt405.2.2 bt410.2.1 bt422.1 bt422.2 bt424.2 bt428.1 true)) else (laws_FnPasting.j0 k t385 t386 t387 t391 t394 t400 t402 t403 t404 bt405.1 bt405.2.2 bt410.2.1 bt422.1 bt422.2 bt424.2 bt428.1 true)) else (laws_FnPasting.j0 k t385 t386 t387 t391 t394 t400 t402 t403 t404 bt405.1 bt405.2.2 bt410.2.1 bt422.1 bt422.2 bt424.2 bt428.1 true)) else (laws_FnPasting.j0 k t385 t386 t387 t391 t394 t400 t402 t403 t404 bt405.1 bt405.2.2 bt410.2.1 bt422.1 bt422.2 bt424.2 bt428.1 true))) else (laws_FnPasting.j0 k t385 t386 t387 t391 t394 t400 t402 t403 t404 bt405.1 bt405.2.2 bt410.2.1 bt422.1 bt422.2 bt424.2 bt428.1 true)) else (laws_FnPasting.j0 k t385 t386 t387 t391 t394 t400 t402 t403 t404 bt405.1 bt405.2.2 bt410.2.1 bt422.1 bt422.2 bt424.2 bt428.1 true)) else (laws_FnPasting.j0 k t385 t386 t387 t391 t394 t400 t402 t403 t404 bt405.1 bt405.2.2 bt410.2.1 bt422.1 bt422.2 bt424.2 bt428.1 true)) else (laws_FnPasting.j0 k t385 t386 t387 t391 t394 t400 t402 t403 t404 bt405.1 bt405.2.2 bt410.2.1 bt422.1 bt422.2 bt424.2 bt428.1 true))) else (laws_FnPasting.j0 k t385 t386 t387 t391 t394 t400 t402 t403 t404 bt405.1 bt405.2.2 bt410.2.1 bt422.1 bt422.2 bt424.2 bt428.1 true)))))))))) = some r := H
    have A9 := Aside0.mk A90
    clear A90
    replace H := Option.bind_eq_some_iff.mp H
    obtain ⟨⟨t405, t406, t407⟩, A100, H⟩ := H
    replace H : ((spec_QuickOrder.f k t402 t403 t404).bind fun bt410 => ((spec_DrawHandsFor.f k l0).bind fun bt415 => ((impl_HandsFor.f k bt415.1 bt415.2.1 bt415.2.2).bind fun bt418 => ((spec_HandsFor.f k bt415.1 bt415.2.1 bt415.2.2).bind fun bt420 => ((spec_DrawShareGores.f k l0).bind fun bt422 => ((impl_ShareGores.f k bt422.1 bt422.2).bind fun bt424 => ((spec_ShareGores.f k bt422.1 bt422.2).bind fun bt428 => (if t391 = t395 then ((laws_f6ints.f k t390 t394).bind fun t432 => (if t432 = true then (if t399 = t401 then (if t398 = t400 then (if t407 = bt410.2.2 then ((laws_f6ints.f k t405 bt410.1).bind fun t433 => (if t433 = true then (if t406 = bt410.2.1 then (if bt418.2 = bt420.2 then (if bt418.1 = bt420.1 then (if bt424.2 = bt428.2 then ((laws_f6ints.f k bt424.1 bt428.1).bind fun t434 => (laws_FnPasting.j0 k t385 t386 t387 t391 t394 t400 t402 t403 t404 t405 t407 bt410.2.1 bt422.1 bt422.2 bt424.2 bt428.1 (!t434))) else (laws_FnPasting.j0 k t385 t386 t387 t391 t394 t400 t402 t403 t404 t405 t407 bt410.2.1 bt422.1 bt422.2 bt424.2 bt428.1 true)) else (laws_FnPasting.j0 k t385 t386 t387 t391 t394 t400 t402 t403 t404 t405 t407 bt410.2.1 bt422.1 bt422.2 bt424.2 bt428.1 true)) else (laws_FnPasting.j0 k t385 t386 t387 t391 t394 t400 t402 t403 t404 t405 t407 bt410.2.1 bt422.1 bt422.2 bt424.2 bt428.1 true)) else (laws_FnPasting.j0 k t385 t386 t387 t391 t394 t400 t402 t403 t404 t405 t407 bt410.2.1 bt422.1 bt422.2 bt424.2 bt428.1 true)) else (laws_FnPasting.j0 k t385 t386 t387 t391 t394 t400 t402 t403 t404 t405 t407 bt410.2.1 bt422.1 bt422.2 bt424.2 bt428.1 true))) else (laws_FnPasting.j0 k t385 t386 t387 t391 t394 t400 t402 t403 t404 t405 t407 bt410.2.1 bt422.1 bt422.2 bt424.2 bt428.1 true)) else (laws_FnPasting.j0 k t385 t386 t387 t391 t394 t400 t402 t403 t404 t405 t407 bt410.2.1 bt422.1 bt422.2 bt424.2 bt428.1 true)) else (laws_FnPasting.j0 k t385 t386 t387 t391 t394 t400 t402 t403 t404 t405 t407 bt410.2.1 bt422.1 bt422.2 bt424.2 bt428.1 true)) else (laws_FnPasting.j0 k t385 t386 t387 t391 t394 t400 t402 t403 t404 t405 t407 bt410.2.1 bt422.1 bt422.2 bt424.2 bt428.1 true))) else (laws_FnPasting.j0 k t385 t386 t387 t391 t394 t400 t402 t403 t404 t405 t407 bt410.2.1 bt422.1 bt422.2 bt424.2 bt428.1 true))))))))) = some r := H
    have A10 := Aside0.mk A100
    clear A100
    replace H := Option.bind_eq_some_iff.mp H
    obtain ⟨⟨t410, t411, t412⟩, A110, H⟩ := H
    replace H : ((spec_DrawHandsFor.f k l0).bind fun bt415 => ((impl_HandsFor.f k bt415.1 bt415.2.1 bt415.2.2).bind fun bt418 => ((spec_HandsFor.f k bt415.1 bt415.2.1 bt415.2.2).bind fun bt420 => ((spec_DrawShareGores.f k l0).bind fun bt422 => ((impl_ShareGores.f k bt422.1 bt422.2).bind fun bt424 => ((spec_ShareGores.f k bt422.1 bt422.2).bind fun bt428 => (if t391 = t395 then ((laws_f6ints.f k t390 t394).bind fun t432 => (if t432 = true then (if t399 = t401 then (if t398 = t400 then (if t407 = t412 then ((laws_f6ints.f k t405 t410).bind fun t433 => (if t433 = true then (if t406 = t411 then (if bt418.2 = bt420.2 then (if bt418.1 = bt420.1 then (if bt424.2 = bt428.2 then ((laws_f6ints.f k bt424.1 bt428.1).bind fun t434 => (laws_FnPasting.j0 k t385 t386 t387 t391 t394 t400 t402 t403 t404 t405 t407 t411 bt422.1 bt422.2 bt424.2 bt428.1 (!t434))) else (laws_FnPasting.j0 k t385 t386 t387 t391 t394 t400 t402 t403 t404 t405 t407 t411 bt422.1 bt422.2 bt424.2 bt428.1 true)) else (laws_FnPasting.j0 k t385 t386 t387 t391 t394 t400 t402 t403 t404 t405 t407 t411 bt422.1 bt422.2 bt424.2 bt428.1 true)) else (laws_FnPasting.j0 k t385 t386 t387 t391 t394 t400 t402 t403 t404 t405 t407 t411 bt422.1 bt422.2 bt424.2 bt428.1 true)) else (laws_FnPasting.j0 k t385 t386 t387 t391 t394 t400 t402 t403 t404 t405 t407 t411 bt422.1 bt422.2 bt424.2 bt428.1 true)) else (laws_FnPasting.j0 k t385 t386 t387 t391 t394 t400 t402 t403 t404 t405 t407 t411 bt422.1 bt422.2 bt424.2 bt428.1 true))) else (laws_FnPasting.j0 k t385 t386 t387 t391 t394 t400 t402 t403 t404 t405 t407 t411 bt422.1 bt422.2 bt424.2 bt428.1 true)) else (laws_FnPasting.j0 k t385 t386 t387 t391 t394 t400 t402 t403 t404 t405 t407 t411 bt422.1 bt422.2 bt424.2 bt428.1 true)) else (laws_FnPasting.j0 k t385 t386 t387 t391 t394 t400 t402 t403 t404 t405 t407 t411 bt422.1 bt422.2 bt424.2 bt428.1 true)) else (laws_FnPasting.j0 k t385 t386 t387 t391 t394 t400 t402 t403 t404 t405 t407 t411 bt422.1 bt422.2 bt424.2 bt428.1 true))) else (laws_FnPasting.j0 k t385 t386 t387 t391 t394 t400 t402 t403 t404 t405 t407 t411 bt422.1 bt422.2 bt424.2 bt428.1 true)))))))) = some r := H
    have A11 := Aside0.mk A110
    clear A110
    replace H := Option.bind_eq_some_iff.mp H
    obtain ⟨⟨t415, t416, t417⟩, A120, H⟩ := H
    replace H : ((impl_HandsFor.f k t415 t416 t417).bind fun bt418 => ((spec_HandsFor.f k t415 t416 t417).bind fun bt420 => ((spec_DrawShareGores.f k l0).bind fun bt422 => ((impl_ShareGores.f k bt422.1 bt422.2).bind fun bt424 => ((spec_ShareGores.f k bt422.1 bt422.2).bind fun bt428 => (if t391 = t395 then ((laws_f6ints.f k t390 t394).bind fun t432 => (if t432 = true then (if t399 = t401 then (if t398 = t400 then (if t407 = t412 then ((laws_f6ints.f k t405 t410).bind fun t433 => (if t433 = true then (if t406 = t411 then (if bt418.2 = bt420.2 then (if bt418.1 = bt420.1 then (if bt424.2 = bt428.2 then ((laws_f6ints.f k bt424.1 bt428.1).bind fun t434 => (laws_FnPasting.j0 k t385 t386 t387 t391 t394 t400 t402 t403 t404 t405 t407 t411 bt422.1 bt422.2 bt424.2 bt428.1 (!t434))) else (laws_FnPasting.j0 k t385 t386 t387 t391 t394 t400 t402 t403 t404 t405 t407 t411 bt422.1 bt422.2 bt424.2 bt428.1 true)) else (laws_FnPasting.j0 k t385 t386 t387 t391 t394 t400 t402 t403 t404 t405 t407 t411 bt422.1 bt422.2 bt424.2 bt428.1 true)) else (laws_FnPasting.j0 k t385 t386 t387 t391 t394 t400 t402 t403 t404 t405 t407 t411 bt422.1 bt422.2 bt424.2 bt428.1 true)) else (laws_FnPasting.j0 k t385 t386 t387 t391 t394 t400 t402 t403 t404 t405 t407 t411 bt422.1 bt422.2 bt424.2 bt428.1 true)) else (laws_FnPasting.j0 k t385 t386 t387 t391 t394 t400 t402 t403 t404 t405 t407 t411 bt422.1 bt422.2 bt424.2 bt428.1 true))) else (laws_FnPasting.j0 k t385 t386 t387 t391 t394 t400 t402 t403 t404 t405 t407 t411 bt422.1 bt422.2 bt424.2 bt428.1 true)) else (laws_FnPasting.j0 k t385 t386 t387 t391 t394 t400 t402 t403 t404 t405 t407 t411 bt422.1 bt422.2 bt424.2 bt428.1 true)) else (laws_FnPasting.j0 k t385 t386 t387 t391 t394 t400 t402 t403 t404 t405 t407 t411 bt422.1 bt422.2 bt424.2 bt428.1 true)) else (laws_FnPasting.j0 k t385 t386 t387 t391 t394 t400 t402 t403 t404 t405 t407 t411 bt422.1 bt422.2 bt424.2 bt428.1 true))) else (laws_FnPasting.j0 k t385 t386 t387 t391 t394 t400 t402 t403 t404 t405 t407 t411 bt422.1 bt422.2 bt424.2 bt428.1 true))))))) = some r := H
    have A12 := Aside0.mk A120
    clear A120
    replace H := Option.bind_eq_some_iff.mp H
    obtain ⟨⟨t418, t419⟩, A130, H⟩ := H
    replace H : ((spec_HandsFor.f k t415 t416 t417).bind fun bt420 => ((spec_DrawShareGores.f k l0).bind fun bt422 => ((impl_ShareGores.f k bt422.1 bt422.2).bind fun bt424 => ((spec_ShareGores.f k bt422.1 bt422.2).bind fun bt428 => (if t391 = t395 then ((laws_f6ints.f k t390 t394).bind fun t432 => (if t432 = true then (if t399 = t401 then (if t398 = t400 then (if t407 = t412 then ((laws_f6ints.f k t405 t410).bind fun t433 => (if t433 = true then (if t406 = t411 then (if t419 = bt420.2 then (if t418 = bt420.1 then (if bt424.2 = bt428.2 then ((laws_f6ints.f k bt424.1 bt428.1).bind fun t434 => (laws_FnPasting.j0 k t385 t386 t387 t391 t394 t400 t402 t403 t404 t405 t407 t411 bt422.1 bt422.2 bt424.2 bt428.1 (!t434))) else (laws_FnPasting.j0 k t385 t386 t387 t391 t394 t400 t402 t403 t404 t405 t407 t411 bt422.1 bt422.2 bt424.2 bt428.1 true)) else (laws_FnPasting.j0 k t385 t386 t387 t391 t394 t400 t402 t403 t404 t405 t407 t411 bt422.1 bt422.2 bt424.2 bt428.1 true)) else (laws_FnPasting.j0 k t385 t386 t387 t391 t394 t400 t402 t403 t404 t405 t407 t411 bt422.1 bt422.2 bt424.2 bt428.1 true)) else (laws_FnPasting.j0 k t385 t386 t387 t391 t394 t400 t402 t403 t404 t405 t407 t411 bt422.1 bt422.2 bt424.2 bt428.1 true)) else (laws_FnPasting.j0 k t385 t386 t387 t391 t394 t400 t402 t403 t404 t405 t407 t411 bt422.1 bt422.2 bt424.2 bt428.1 true))) else (laws_FnPasting.j0 k t385 t386 t387 t391 t394 t400 t402 t403 t404 t405 t407 t411 bt422.1 bt422.2 bt424.2 bt428.1 true)) else (laws_FnPasting.j0 k t385 t386 t387 t391 t394 t400 t402 t403 t404 t405 t407 t411 bt422.1 bt422.2 bt424.2 bt428.1 true)) else (laws_FnPasting.j0 k t385 t386 t387 t391 t394 t400 t402 t403 t404 t405 t407 t411 bt422.1 bt422.2 bt424.2 bt428.1 true)) else (laws_FnPasting.j0 k t385 t386 t387 t391 t394 t400 t402 t403 t404 t405 t407 t411 bt422.1 bt422.2 bt424.2 bt428.1 true))) else (laws_FnPasting.j0 k t385 t386 t387 t391 t394 t400 t402 t403 t404 t405 t407 t411 bt422.1 bt422.2 bt424.2 bt428.1 true)))))) = some r := H
    have A13 := Aside0.mk A130
    clear A130
    replace H := Option.bind_eq_some_iff.mp H
    obtain ⟨⟨t420, t421⟩, A140, H⟩ := H
    replace H : ((spec_DrawShareGores.f k l0).bind fun bt422 => ((impl_ShareGores.f k bt422.1 bt422.2).bind fun bt424 => ((spec_ShareGores.f k bt422.1 bt422.2).bind fun bt428 => (if t391 = t395 then ((laws_f6ints.f k t390 t394).bind fun t432 => (if t432 = true then (if t399 = t401 then (if t398 = t400 then (if t407 = t412 then ((laws_f6ints.f k t405 t410).bind fun t433 => (if t433 = true then (if t406 = t411 then (if t419 = t421 then (if t418 = t420 then (if bt424.2 = bt428.2 then ((laws_f6ints.f k bt424.1 bt428.1).bind fun t434 => (laws_FnPasting.j0 k t385 t386 t387 t391 t394 t400 t402 t403 t404 t405 t407 t411 bt422.1 bt422.2 bt424.2 bt428.1 (!t434))) else (laws_FnPasting.j0 k t385 t386 t387 t391 t394 t400 t402 t403 t404 t405 t407 t411 bt422.1 bt422.2 bt424.2 bt428.1 true)) else (laws_FnPasting.j0 k t385 t386 t387 t391 t394 t400 t402 t403 t404 t405 t407 t411 bt422.1 bt422.2 bt424.2 bt428.1 true)) else (laws_FnPasting.j0 k t385 t386 t387 t391 t394 t400 t402 t403 t404 t405 t407 t411 bt422.1 bt422.2 bt424.2 bt428.1 true)) else (laws_FnPasting.j0 k t385 t386 t387 t391 t394 t400 t402 t403 t404 t405 t407 t411 bt422.1 bt422.2 bt424.2 bt428.1 true)) else (laws_FnPasting.j0 k t385 t386 t387 t391 t394 t400 t402 t403 t404 t405 t407 t411 bt422.1 bt422.2 bt424.2 bt428.1 true))) else (laws_FnPasting.j0 k t385 t386 t387 t391 t394 t400 t402 t403 t404 t405 t407 t411 bt422.1 bt422.2 bt424.2 bt428.1 true)) else (laws_FnPasting.j0 k t385 t386 t387 t391 t394 t400 t402 t403 t404 t405 t407 t411 bt422.1 bt422.2 bt424.2 bt428.1 true)) else (laws_FnPasting.j0 k t385 t386 t387 t391 t394 t400 t402 t403 t404 t405 t407 t411 bt422.1 bt422.2 bt424.2 bt428.1 true)) else (laws_FnPasting.j0 k t385 t386 t387 t391 t394 t400 t402 t403 t404 t405 t407 t411 bt422.1 bt422.2 bt424.2 bt428.1 true))) else (laws_FnPasting.j0 k t385 t386 t387 t391 t394 t400 t402 t403 t404 t405 t407 t411 bt422.1 bt422.2 bt424.2 bt428.1 true))))) = some r := H
    have A14 := Aside0.mk A140
    clear A140
    replace H := Option.bind_eq_some_iff.mp H
    obtain ⟨⟨t422, t423⟩, A150, H⟩ := H
    replace H : ((impl_ShareGores.f k t422 t423).bind fun bt424 => ((spec_ShareGores.f k t422 t423).bind fun bt428 => (if t391 = t395 then ((laws_f6ints.f k t390 t394).bind fun t432 => (if t432 = true then (if t399 = t401 then (if t398 = t400 then (if t407 = t412 then ((laws_f6ints.f k t405 t410).bind fun t433 => (if t433 = true then (if t406 = t411 then (if t419 = t421 then (if t418 = t420 then (if bt424.2 = bt428.2 then ((laws_f6ints.f k bt424.1 bt428.1).bind fun t434 => (laws_FnPasting.j0 k t385 t386 t387 t391 t394 t400 t402 t403 t404 t405 t407 t411 t422 t423 bt424.2 bt428.1 (!t434))) else (laws_FnPasting.j0 k t385 t386 t387 t391 t394 t400 t402 t403 t404 t405 t407 t411 t422 t423 bt424.2 bt428.1 true)) else (laws_FnPasting.j0 k t385 t386 t387 t391 t394 t400 t402 t403 t404 t405 t407 t411 t422 t423 bt424.2 bt428.1 true)) else (laws_FnPasting.j0 k t385 t386 t387 t391 t394 t400 t402 t403 t404 t405 t407 t411 t422 t423 bt424.2 bt428.1 true)) else (laws_FnPasting.j0 k t385 t386 t387 t391 t394 t400 t402 t403 t404 t405 t407 t411 t422 t423 bt424.2 bt428.1 true)) else (laws_FnPasting.j0 k t385 t386 t387 t391 t394 t400 t402 t403 t404 t405 t407 t411 t422 t423 bt424.2 bt428.1 true))) else (laws_FnPasting.j0 k t385 t386 t387 t391 t394 t400 t402 t403 t404 t405 t407 t411 t422 t423 bt424.2 bt428.1 true)) else (laws_FnPasting.j0 k t385 t386 t387 t391 t394 t400 t402 t403 t404 t405 t407 t411 t422 t423 bt424.2 bt428.1 true)) else (laws_FnPasting.j0 k t385 t386 t387 t391 t394 t400 t402 t403 t404 t405 t407 t411 t422 t423 bt424.2 bt428.1 true)) else (laws_FnPasting.j0 k t385 t386 t387 t391 t394 t400 t402 t403 t404 t405 t407 t411 t422 t423 bt424.2 bt428.1 true))) else (laws_FnPasting.j0 k t385 t386 t387 t391 t394 t400 t402 t403 t404 t405 t407 t411 t422 t423 bt424.2 bt428.1 true)))) = some r := H
    have A15 := Aside0.mk A150
    clear A150
    replace H := Option.bind_eq_some_iff.mp H
    obtain ⟨⟨t424, t425⟩, A160, H⟩ := H
    replace H : ((spec_ShareGores.f k t422 t423).bind fun bt428 => (if t391 = t395 then ((laws_f6ints.f k t390 t394).bind fun t432 => (if t432 = true then (if t399 = t401 then (if t398 = t400 then (if t407 = t412 then ((laws_f6ints.f k t405 t410).bind fun t433 => (if t433 = true then (if t406 = t411 then (if t419 = t421 then (if t418 = t420 then (if t425 = bt428.2 then ((laws_f6ints.f k t424 bt428.1).bind fun t434 => (laws_FnPasting.j0 k t385 t386 t387 t391 t394 t400 t402 t403 t404 t405 t407 t411 t422 t423 t425 bt428.1 (!t434))) else (laws_FnPasting.j0 k t385 t386 t387 t391 t394 t400 t402 t403 t404 t405 t407 t411 t422 t423 t425 bt428.1 true)) else (laws_FnPasting.j0 k t385 t386 t387 t391 t394 t400 t402 t403 t404 t405 t407 t411 t422 t423 t425 bt428.1 true)) else (laws_FnPasting.j0 k t385 t386 t387 t391 t394 t400 t402 t403 t404 t405 t407 t411 t422 t423 t425 bt428.1 true)) else (laws_FnPasting.j0 k t385 t386 t387 t391 t394 t400 t402 t403 t404 t405 t407 t411 t422 t423 t425 bt428.1 true)) else (laws_FnPasting.j0 k t385 t386 t387 t391 t394 t400 t402 t403 t404 t405 t407 t411 t422 t423 t425 bt428.1 true))) else (laws_FnPasting.j0 k t385 t386 t387 t391 t394 t400 t402 t403 t404 t405 t407 t411 t422 t423 t425 bt428.1 true)) else (laws_FnPasting.j0 k t385 t386 t387 t391 t394 t400 t402 t403 t404 t405 t407 t411 t422 t423 t425 bt428.1 true)) else (laws_FnPasting.j0 k t385 t386 t387 t391 t394 t400 t402 t403 t404 t405 t407 t411 t422 t423 t425 bt428.1 true)) else (laws_FnPasting.j0 k t385 t386 t387 t391 t394 t400 t402 t403 t404 t405 t407 t411 t422 t423 t425 bt428.1 true))) else (laws_FnPasting.j0 k t385 t386 t387 t391 t394 t400 t402 t403 t404 t405 t407 t411 t422 t423 t425 bt428.1 true))) = some r := H
    have A16 := Aside0.mk A160
    clear A160
    replace H := Option.bind_eq_some_iff.mp H
    obtain ⟨⟨t428, t429⟩, A170, H⟩ := H
    replace H : (if t391 = t395 then ((laws_f6ints.f k t390 t394).bind fun t432 => (if t432 = true then (if t399 = t401 then (if t398 = t400 then (if t407 = t412 then ((laws_f6ints.f k t405 t410).bind fun t433 => (if t433 = true then (if t406 = t411 then (if t419 = t421 then (if t418 = t420 then (if t425 = t429 then ((laws_f6ints.f k t424 t428).bind fun t434 => (laws_FnPasting.j0 k t385 t386 t387 t391 t394 t400 t402 t403 t404 t405 t407 t411 t422 t423 t425 t428 (!t434))) else (laws_FnPasting.j0 k t385 t386 t387 t391 t394 t400 t402 t403 t404 t405 t407 t411 t422 t423 t425 t428 true)) else (laws_FnPasting.j0 k t385 t386 t387 t391 t394 t400 t402 t403 t404 t405 t407 t411 t422 t423 t425 t428 true)) else (laws_FnPasting.j0 k t385 t386 t387 t391 t394 t400 t402 t403 t404 t405 t407 t411 t422 t423 t425 t428 true)) else (laws_FnPasting.j0 k t385 t386 t387 t391 t394 t400 t402 t403 t404 t405 t407 t411 t422 t423 t425 t428 true)) else (laws_FnPasting.j0 k t385 t386 t387 t391 t394 t400 t402 t403 t404 t405 t407 t411 t422 t423 t425 t428 true))) else (laws_FnPasting.j0 k t385 t386 t387 t391 t394 t400 t402 t403 t404 t405 t407 t411 t422 t423 t425 t428 true)) else (laws_FnPasting.j0 k t385 t386 t387 t391 t394 t400 t402 t403 t404 t405 t407 t411 t422 t423 t425 t428 true)) else (laws_FnPasting.j0 k t385 t386 t387 t391 t394 t400 t402 t403 t404 t405 t407 t411 t422 t423 t425 t428 true)) else (laws_FnPasting.j0 k t385 t386 t387 t391 t394 t400 t402 t403 t404 t405 t407 t411 t422 t423 t425 t428 true))) else (laws_FnPasting.j0 k t385 t386 t387 t391 t394 t400 t402 t403 t404 t405 t407 t411 t422 t423 t425 t428 true)) = some r := H
    have A17 := Aside0.mk A170
    clear A170
    have HC18 := Aside0.mk H
    clear H
    go_enter Try.func10, Try.ntmps10
    go_upto_region 17 with (first | ((with_reducible refine gate_callee (f := 29) rfl ?_); refine goesL_ (some 43) rfl rfl Try.func29 (by kernel_rfl) rfl #[.slice A0 l0.length c0] rfl (by (try simp only [List.map_toArray, List.map_cons, List.map_nil]); first | done | rfl | (simp only [List.length_drop, List.length_take]; rfl)) ?_; (with_reducible refine (laws_f6big.calls _ _ l0 false _ ?side1 ?side2 A2.out).mono ?_); (case side1 => repeat (first | exact HR0.out | (with_reducible refine Kd.C_alloc ?_ _) | (with_reducible refine Kd.C_drewN ?_ _) | (with_reducible refine Kd.C_drew ?_))); (case side2 => exact HC0.out); rintro e w' ⟨rfl, ⟨nd, rfl⟩⟩; refine ⟨_, rfl, ?_⟩) | ((with_reducible refine gate_callee (f := 30) rfl ?_); refine goesL_ (some 46) rfl rfl Try.func30 (by kernel_rfl) rfl #[.slice A0 l0.length c0] rfl (by (try simp only [List.map_toArray, List.map_cons, List.map_nil]); first | done | rfl | (simp only [List.length_drop, List.length_take]; rfl)) ?_; (with_reducible refine (spec_DrawStartsOfPasting.calls k _ _ l0 t385 t386 t387 _ ?side1 ?side2 A4.out).mono ?_); (case side1 => repeat (first | exact HR0.out | (with_reducible refine Kd.C_alloc ?_ _) | (with_reducible refine Kd.C_drewN ?_ _) | (with_reducible refine Kd.C_drew ?_))); (case side2 => exact HC0.out); rintro e w19 ⟨v388, rfl, ho0, hb⟩; refine ⟨_, rfl, ?_⟩; have n0_ := Aside0.mk (Kd.R_lower ho0 (below_size (by repeat (first | (with_reducible first | exact HB.out | apply below_alloc | apply pw_below_drewN | apply below_drew1) | exact HB.out)))); have n1_ := Aside0.mk (below_step (by repeat (first | (with_reducible first | exact HB.out | apply below_alloc | apply pw_below_drewN | apply below_drew1) | exact HB.out)) hb); clear HB; have HO389 := n0_; have HB := n1_; clear n0_ n1_; (try clear hb); (try clear hb2); (try clear hk); (try clear hi); (try clear ho0); obtain ⟨Ao20, co20, eo20⟩ := Kd.R_slice HO389.out; subst eo20) | ((with_reducible refine gate_callee (f := 26) rfl ?_); refine goesL_ (some 54) rfl rfl Try.func26 (by kernel_rfl) rfl #[.slice Ao20 t385.length co20, .int .i64 t386, .int .i64 t387] rfl (by (try simp only [List.map_toArray, List.map_cons, List.map_nil]); first | done | rfl | (simp only [List.length_drop, List.length_take]; rfl)) ?_; (with_reducible refine (impl_StartsOfPasting.calls k _ _ t385 t386 t387 t390 t391 _ ?side1 ?side2 A5.out).mono ?_); (case side1 => repeat (first | exact (Kd.R_reads' HO389.out).2.2 | (with_reducible refine Kd.C_alloc ?_ _) | (with_reducible refine Kd.C_drewN ?_ _) | (with_reducible refine Kd.C_drew ?_))); (case side2 => exact (Kd.R_reads' HO389.out).2.1); rintro e w21 ⟨v392, rfl, ho0, hb⟩; refine ⟨_, rfl, ?_⟩; have n0_ := Aside0.mk (Kd.R_elder' (by (with_reducible repeat (first | apply Kd.R_alloc | apply Kd.R_drewN | apply Kd.R_drew)); exact HO389.out) (Kd.R_base ho0) hb); have n1_ := Aside0.mk (Kd.R_lower (Kd.R_new' ho0 (Kd.R_lt (by (with_reducible repeat (first | apply Kd.R_alloc | apply Kd.R_drewN | apply Kd.R_drew)); exact HO389.out))) (below_size (by repeat (first | (with_reducible first | exact HB.out | apply below_alloc | apply pw_below_drewN | apply below_drew1) | exact HB.out)))); have n2_ := Aside0.mk (below_step (by repeat (first | (with_reducible first | exact HB.out | apply below_alloc | apply pw_below_drewN | apply below_drew1) | exact HB.out)) hb); clear HO389; clear HB; have HO389 := n0_; have HO393 := n1_; have HB := n2_; clear n0_ n1_ n2_; (try clear hb); (try clear hb2); (try clear hk); (try clear hi); (try clear ho0)) | ((with_reducible refine gate_callee (f := 25) rfl ?_); refine goesL_ (some 61) rfl rfl Try.func25 (by kernel_rfl) rfl #[.slice Ao20 t385.length co20, .int .i64 t386, .int .i64 t387] rfl (by (try simp only [List.map_toArray, List.map_cons, List.map_nil]); first | done | rfl | (simp only [List.length_drop, List.length_take]; rfl)) ?_; (with_reducible refine (spec_StartsOfPasting.calls k _ _ t385 t386 t387 t394 t395 _ ?side1 ?side2 A6.out).mono ?_); (case side1 => repeat (first | exact (Kd.R_reads' HO389.out).2.2 | (with_reducible refine Kd.C_alloc ?_ _) | (with_reducible refine Kd.C_drewN ?_ _) | (with_reducible refine Kd.C_drew ?_))); (case side2 => exact (Kd.R_reads' HO389.out).2.1); rintro e w22 ⟨v396, rfl, ho0, hb⟩; refine ⟨_, rfl, ?_⟩; have n0_ := Aside0.mk (Kd.R_elder' (by (with_reducible repeat (first | apply Kd.R_alloc | apply Kd.R_drewN | apply Kd.R_drew)); exact HO389.out) (Kd.R_base ho0) hb); have n1_ := Aside0.mk (Kd.R_elder' (by (with_reducible repeat (first | apply Kd.R_alloc | apply Kd.R_drewN | apply Kd.R_drew)); exact HO393.out) (Kd.R_base ho0) hb); have n2_ := Aside0.mk (Kd.R_lower (Kd.R_new' (Kd.R_new' ho0 (Kd.R_lt (by (with_reducible repeat (first | apply Kd.R_alloc | apply Kd.R_drewN | apply Kd.R_drew)); exact HO389.out))) (Kd.R_lt (by (with_reducible repeat (first | apply Kd.R_alloc | apply Kd.R_drewN | apply Kd.R_drew)); exact HO393.out))) (below_size (by repeat (first | (with_reducible first | exact HB.out | apply below_alloc | apply pw_below_drewN | apply below_drew1) | exact HB.out)))); have n3_ := Aside0.mk (below_step (by repeat (first | (with_reducible first | exact HB.out | apply below_alloc | apply pw_below_drewN | apply below_drew1) | exact HB.out)) hb); clear HO389; clear HO393; clear HB; have HO389 := n0_; have HO393 := n1_; have HO397 := n2_; have HB := n3_; clear n0_ n1_ n2_ n3_; (try clear hb); (try clear hb2); (try clear hk); (try clear hi); (try clear ho0)) | ((with_reducible refine gate_callee (f := 28) rfl ?_); refine goesL_ (some 68) rfl rfl Try.func28 (by kernel_rfl) rfl #[.slice Ao20 t385.length co20, .int .i64 t386, .int .i64 t387] rfl (by (try simp only [List.map_toArray, List.map_cons, List.map_nil]); first | done | rfl | (simp only [List.length_drop, List.length_take]; rfl)) ?_; (with_reducible refine (impl_EndOfPasting.calls k _ _ t385 t386 t387 t398 t399 _ ?side1 ?side2 A7.out).mono ?_); (case side1 => repeat (first | exact (Kd.R_reads' HO389.out).2.2 | (with_reducible refine Kd.C_alloc ?_ _) | (with_reducible refine Kd.C_drewN ?_ _) | (with_reducible refine Kd.C_drew ?_))); (case side2 => exact (Kd.R_reads' HO389.out).2.1); rintro e w23 ⟨rfl, hb⟩; refine ⟨_, rfl, ?_⟩; have n0_ := Aside0.mk (Kd.R_below (by (with_reducible repeat (first | apply Kd.R_alloc | apply Kd.R_drewN | apply Kd.R_drew)); exact HO389.out) hb); have n1_ := Aside0.mk (Kd.R_below (by (with_reducible repeat (first | apply Kd.R_alloc | apply Kd.R_drewN | apply Kd.R_drew)); exact HO393.out) hb); have n2_ := Aside0.mk (Kd.R_below (by (with_reducible repeat (first | apply Kd.R_alloc | apply Kd.R_drewN | apply Kd.R_drew)); exact HO397.out) hb); have n3_ := Aside0.mk (below_step (by repeat (first | (with_reducible first | exact HB.out | apply below_alloc | apply pw_below_drewN | apply below_drew1) | exact HB.out)) hb); clear HO389; clear HO393; clear HO397; clear HB; have HO389 := n0_; have HO393 := n1_; have HO397 := n2_; have HB := n3_; clear n0_ n1_ n2_ n3_; (try clear hb); (try clear hb2); (try clear hk); (try clear hi)) | ((with_reducible refine gate_callee (f := 27) rfl ?_); refine goesL_ (some 75) rfl rfl Try.func27 (by kernel_rfl) rfl #[.slice Ao20 t385.length co20, .int .i64 t386, .int .i64 t387] rfl (by (try simp only [List.map_toArray, List.map_cons, List.map_nil]); first | done | rfl | (simp only [List.length_drop, List.length_take]; rfl)) ?_; (with_reducible refine (spec_EndOfPasting.calls k _ _ t385 t386 t387 t400 t401 _ ?side1 ?side2 A8.out).mono ?_); (case side1 => repeat (first | exact (Kd.R_reads' HO389.out).2.2 | (with_reducible refine Kd.C_alloc ?_ _) | (with_reducible refine Kd.C_drewN ?_ _) | (with_reducible refine Kd.C_drew ?_))); (case side2 => exact (Kd.R_reads' HO389.out).2.1); rintro e w24 ⟨rfl, hb⟩; refine ⟨_, rfl, ?_⟩; have n0_ := Aside0.mk (Kd.R_below (by (with_reducible repeat (first | apply Kd.R_alloc | apply Kd.R_drewN | apply Kd.R_drew)); exact HO389.out) hb); have n1_ := Aside0.mk (Kd.R_below (by (with_reducible repeat (first | apply Kd.R_alloc | apply Kd.R_drewN | apply Kd.R_drew)); exact HO393.out) hb); have n2_ := Aside0.mk (Kd.R_below (by (with_reducible repeat (first | apply Kd.R_alloc | apply Kd.R_drewN | apply Kd.R_drew)); exact HO397.out) hb); have n3_ := Aside0.mk (below_step (by repeat (first | (with_reducible first | exact HB.out | apply below_alloc | apply pw_below_drewN | apply below_drew1) | exact HB.out)) hb); clear HO389; clear HO393; clear HO397; clear HB; have HO389 := n0_; have HO393 := n1_; have HO397 := n2_; have HB := n3_; clear n0_ n1_ n2_ n3_; (try clear hb); (try clear hb2); (try clear hk); (try clear hi)) | ((with_reducible refine gate_callee (f := 31) rfl ?_); refine goesL_ (some 80) rfl rfl Try.func31 (by kernel_rfl) rfl #[.slice A0 l0.length c0] rfl (by (try simp only [List.map_toArray, List.map_cons, List.map_nil]); first | done | rfl | (simp only [List.length_drop, List.length_take]; rfl)) ?_; (with_reducible refine (spec_DrawQuickOrder.calls _ _ l0 t402 t403 t404 _ ?side1 ?side2 A9.out).mono ?_); (case side1 => repeat (first | exact (Kd.C_below HR0.out HB.out) | (with_reducible refine Kd.C_alloc ?_ _) | (with_reducible refine Kd.C_drewN ?_ _) | (with_reducible refine Kd.C_drew ?_))); (case side2 => exact HC0.out); rintro e w25 ⟨rfl, hb⟩; refine ⟨_, rfl, ?_⟩; have n0_ := Aside0.mk (Kd.R_below (by (with_reducible repeat (first | apply Kd.R_alloc | apply Kd.R_drewN | apply Kd.R_drew)); exact HO389.out) hb); have n1_ := Aside0.mk (Kd.R_below (by (with_reducible repeat (first | apply Kd.R_alloc | apply Kd.R_drewN | apply Kd.R_drew)); exact HO393.out) hb); have n2_ := Aside0.mk (Kd.R_below (by (with_reducible repeat (first | apply Kd.R_alloc | apply Kd.R_drewN | apply Kd.R_drew)); exact HO397.out) hb); have n3_ := Aside0.mk (below_step (by repeat (first | (with_reducible first | exact HB.out | apply below_alloc | apply pw_below_drewN | apply below_drew1) | exact HB.out)) hb); clear HO389; clear HO393; clear HO397; clear HB; have HO389 := n0_; have HO393 := n1_; have HO397 := n2_; have HB := n3_; clear n0_ n1_ n2_ n3_; (try clear hb); (try clear hb2); (try clear hk); (try clear hi)) | ((with_reducible refine gate_callee (f := 19) rfl ?_); refine goesL_ (some 88) rfl rfl Try.func19 (by kernel_rfl) rfl #[.int .i64 t402, .int .i64 t403, .int .i64 t404] rfl (by (try simp only [List.map_toArray, List.map_cons, List.map_nil]); first | done | rfl | (simp only [List.length_drop, List.length_take]; rfl)) ?_; (with_reducible refine (impl_QuickOrder.calls k t402 t403 t404 t405 t406 t407 _ A10.out).mono ?_); rintro e w26 ⟨v408, rfl, ho0, hb⟩; refine ⟨_, rfl, ?_⟩; have n0_ := Aside0.mk (Kd.R_elder' (by (with_reducible repeat (first | apply Kd.R_alloc | apply Kd.R_drewN | apply Kd.R_drew)); exact HO389.out) (Kd.R_base ho0) hb); have n1_ := Aside0.mk (Kd.R_elder' (by (with_reducible repeat (first | apply Kd.R_alloc | apply Kd.R_drewN | apply Kd.R_drew)); exact HO393.out) (Kd.R_base ho0) hb); have n2_ := Aside0.mk (Kd.R_elder' (by (with_reducible repeat (first | apply Kd.R_alloc | apply Kd.R_drewN | apply Kd.R_drew)); exact HO397.out) (Kd.R_base ho0) hb); have n3_ := Aside0.mk (Kd.R_lower (Kd.R_new' (Kd.R_new' (Kd.R_new' ho0 (Kd.R_lt (by (with_reducible repeat (first | apply Kd.R_alloc | apply Kd.R_drewN | apply Kd.R_drew)); exact HO389.out))) (Kd.R_lt (by (with_reducible repeat (first | apply Kd.R_alloc | apply Kd.R_drewN | apply Kd.R_drew)); exact HO393.out))) (Kd.R_lt (by (with_reducible repeat (first | apply Kd.R_alloc | apply Kd.R_drewN | apply Kd.R_drew)); exact HO397.out))) (below_size (by repeat (first | (with_reducible first | exact HB.out | apply below_alloc | apply pw_below_drewN | apply below_drew1) | exact HB.out)))); have n4_ := Aside0.mk (below_step (by repeat (first | (with_reducible first | exact HB.out | apply below_alloc | apply pw_below_drewN | apply below_drew1) | exact HB.out)) hb); clear HO389; clear HO393; clear HO397; clear HB; have HO389 := n0_; have HO393 := n1_; have HO397 := n2_; have HO409 := n3_; have HB := n4_; clear n0_ n1_ n2_ n3_ n4_; (try clear hb); (try clear hb2); (try clear hk); (try clear hi); (try clear ho0)) | ((with_reducible refine gate_callee (f := 18) rfl ?_); refine goesL_ (some 96) rfl rfl Try.func18 (by kernel_rfl) rfl #[.int .i64 t402, .int .i64 t403, .int .i64 t404] rfl (by (try simp only [List.map_toArray, List.map_cons, List.map_nil]); first | done | rfl | (simp only [List.length_drop, List.length_take]; rfl)) ?_; (with_reducible refine (spec_QuickOrder.calls k t402 t403 t404 t410 t411 t412 _ A11.out).mono ?_); rintro e w27 ⟨v413, rfl, ho0, hb⟩; refine ⟨_, rfl, ?_⟩; have n0_ := Aside0.mk (Kd.R_elder' (by (with_reducible repeat (first | apply Kd.R_alloc | apply Kd.R_drewN | apply Kd.R_drew)); exact HO389.out) (Kd.R_base ho0) hb); have n1_ := Aside0.mk (Kd.R_elder' (by (with_reducible repeat (first | apply Kd.R_alloc | apply Kd.R_drewN | apply Kd.R_drew)); exact HO393.out) (Kd.R_base ho0) hb); have n2_ := Aside0.mk (Kd.R_elder' (by (with_reducible repeat (first | apply Kd.R_alloc | apply Kd.R_drewN | apply Kd.R_drew)); exact HO397.out) (Kd.R_base ho0) hb); have n3_ := Aside0.mk (Kd.R_elder' (by (with_reducible repeat (first | apply Kd.R_alloc | apply Kd.R_drewN | apply Kd.R_drew)); exact HO409.out) (Kd.R_base ho0) hb); have n4_ := Aside0.mk (Kd.R_lower (Kd.R_new' (Kd.R_new' (Kd.R_new' (Kd.R_new' ho0 (Kd.R_lt (by (with_reducible repeat (first | apply Kd.R_alloc | apply Kd.R_drewN | apply Kd.R_drew)); exact HO389.out))) (Kd.R_lt (by (with_reducible repeat (first | apply Kd.R_alloc | apply Kd.R_drewN | apply Kd.R_drew)); exact HO393.out))) (Kd.R_lt (by (with_reducible repeat (first | apply Kd.R_alloc | apply Kd.R_drewN | apply Kd.R_drew)); exact HO397.out))) (Kd.R_lt (by (with_reducible repeat (first | apply Kd.R_alloc | apply Kd.R_drewN | apply Kd.R_drew)); exact HO409.out))) (below_size (by repeat (first | (with_reducible first | exact HB.out | apply below_alloc | apply pw_below_drewN | apply below_drew1) | exact HB.out)))); have n5_ := Aside0.mk (below_step (by repeat (first | (with_reducible first | exact HB.out | apply below_alloc | apply pw_below_drewN | apply below_drew1) | exact HB.out)) hb); clear HO389; clear HO393; clear HO397; clear HO409; clear HB; have HO389 := n0_; have HO393 := n1_; have HO397 := n2_; have HO409 := n3_; have HO414 := n4_; have HB := n5_; clear n0_ n1_ n2_ n3_ n4_ n5_; (try clear hb); (try clear hb2); (try clear hk); (try clear hi); (try clear ho0)) | ((with_reducible refine gate_callee (f := 32) rfl ?_); refine goesL_ (some 102) rfl rfl Try.func32 (by kernel_rfl) rfl #[.slice A0 l0.length c0] rfl (by (try simp only [List.map_toArray, List.map_cons, List.map_nil]); first | done | rfl | (simp only [List.length_drop, List.length_take]; rfl)) ?_; (with_reducible refine (spec_DrawHandsFor.calls k _ _ l0 t415 t416 t417 _ ?side1 ?side2 A12.out).mono ?_); (case side1 => repeat (first | exact (Kd.C_below HR0.out HB.out) | (with_reducible refine Kd.C_alloc ?_ _) | (with_reducible refine Kd.C_drewN ?_ _) | (with_reducible refine Kd.C_drew ?_))); (case side2 => exact HC0.out); rintro e w28 ⟨rfl, hb⟩; refine ⟨_, rfl, ?_⟩; have n0_ := Aside0.mk (Kd.R_below (by (with_reducible repeat (first | apply Kd.R_alloc | apply Kd.R_drewN | apply Kd.R_drew)); exact HO389.out) hb); have n1_ := Aside0.mk (Kd.R_below (by (with_reducible repeat (first | apply Kd.R_alloc | apply Kd.R_drewN | apply Kd.R_drew)); exact HO393.out) hb); have n2_ := Aside0.mk (Kd.R_below (by (with_reducible repeat (first | apply Kd.R_alloc | apply Kd.R_drewN | apply Kd.R_drew)); exact HO397.out) hb); have n3_ := Aside0.mk (Kd.R_below (by (with_reducible repeat (first | apply Kd.R_alloc | apply Kd.R_drewN | apply Kd.R_drew)); exact HO409.out) hb); have n4_ := Aside0.mk (Kd.R_below (by (with_reducible repeat (first | apply Kd.R_alloc | apply Kd.R_drewN | apply Kd.R_drew)); exact HO414.out) hb); have n5_ := Aside0.mk (below_step (by repeat (first | (with_reducible first | exact HB.out | apply below_alloc | apply pw_below_drewN | apply below_drew1) | exact HB.out)) hb); clear HO389; clear HO393; clear HO397; clear HO409; clear HO414; clear HB; have HO389 := n0_; have HO393 := n1_; have HO397 := n2_; have HO409 := n3_; have HO414 := n4_; have HB := n5_; clear n0_ n1_ n2_ n3_ n4_ n5_; (try clear hb); (try clear hb2); (try clear hk); (try clear hi)) | ((with_reducible refine gate_callee (f := 12) rfl ?_); refine goesL_ (some 110) rfl rfl Try.func12 (by kernel_rfl) rfl #[.int .i64 t415, .int .i64 t416, .int .i64 t417] rfl (by (try simp only [List.map_toArray, List.map_cons, List.map_nil]); first | done | rfl | (simp only [List.length_drop, List.length_take]; rfl)) ?_; (with_reducible refine (impl_HandsFor.calls k t415 t416 t417 t418 t419 _ A13.out).mono ?_); rintro e w' ⟨rfl, ⟨nd, rfl⟩⟩; refine ⟨_, rfl, ?_⟩) | ((with_reducible refine gate_callee (f := 11) rfl ?_); refine goesL_ (some 117) rfl rfl Try.func11 (by kernel_rfl) rfl #[.int .i64 t415, .int .i64 t416, .int .i64 t417] rfl (by (try simp only [List.map_toArray, List.map_cons, List.map_nil]); first | done | rfl | (simp only [List.length_drop, List.length_take]; rfl)) ?_; (with_reducible refine (spec_HandsFor.calls k t415 t416 t417 t420 t421 _ A14.out).mono ?_); rintro e w' ⟨rfl, ⟨nd, rfl⟩⟩; refine ⟨_, rfl, ?_⟩) | ((with_reducible refine gate_callee (f := 33) rfl ?_); refine goesL_ (some 122) rfl rfl Try.func33 (by kernel_rfl) rfl #[.slice A0 l0.length c0] rfl (by (try simp only [List.map_toArray, List.map_cons, List.map_nil]); first | done | rfl | (simp only [List.length_drop, List.length_take]; rfl)) ?_; (with_reducible refine (spec_DrawShareGores.calls k _ _ l0 t422 t423 _ ?side1 ?side2 A15.out).mono ?_); (case side1 => repeat (first | exact (Kd.C_below HR0.out (by repeat (first | (with_reducible first | exact HB.out | apply below_alloc | apply pw_below_drewN | apply below_drew1) | exact HB.out))) | (with_reducible refine Kd.C_alloc ?_ _) | (with_reducible refine Kd.C_drewN ?_ _) | (with_reducible refine Kd.C_drew ?_))); (case side2 => exact HC0.out); rintro e w29 ⟨rfl, hb⟩; refine ⟨_, rfl, ?_⟩; have n0_ := Aside0.mk (Kd.R_below (by (with_reducible repeat (first | apply Kd.R_alloc | apply Kd.R_drewN | apply Kd.R_drew)); exact HO389.out) hb); have n1_ := Aside0.mk (Kd.R_below (by (with_reducible repeat (first | apply Kd.R_alloc | apply Kd.R_drewN | apply Kd.R_drew)); exact HO393.out) hb); have n2_ := Aside0.mk (Kd.R_below (by (with_reducible repeat (first | apply Kd.R_alloc | apply Kd.R_drewN | apply Kd.R_drew)); exact HO397.out) hb); have n3_ := Aside0.mk (Kd.R_below (by (with_reducible repeat (first | apply Kd.R_alloc | apply Kd.R_drewN | apply Kd.R_drew)); exact HO409.out) hb); have n4_ := Aside0.mk (Kd.R_below (by (with_reducible repeat (first | apply Kd.R_alloc | apply Kd.R_drewN | apply Kd.R_drew)); exact HO414.out) hb); have n5_ := Aside0.mk (below_step (by repeat (first | (with_reducible first | exact HB.out | apply below_alloc | apply pw_below_drewN | apply below_drew1) | exact HB.out)) hb); clear HO389; clear HO393; clear HO397; clear HO409; clear HO414; clear HB; have HO389 := n0_; have HO393 := n1_; have HO397 := n2_; have HO409 := n3_; have HO414 := n4_; have HB := n5_; clear n0_ n1_ n2_ n3_ n4_ n5_; (try clear hb); (try clear hb2); (try clear hk); (try clear hi)) | ((with_reducible refine gate_callee (f := 14) rfl ?_); refine goesL_ (some 128) rfl rfl Try.func14 (by kernel_rfl) rfl #[.int .i64 t422, .int .i64 t423] rfl (by (try simp only [List.map_toArray, List.map_cons, List.map_nil]); first | done | rfl | (simp only [List.length_drop, List.length_take]; rfl)) ?_; (with_reducible refine (impl_ShareGores.calls k t422 t423 t424 t425 _ A16.out).mono ?_); rintro e w30 ⟨v426, rfl, ho0, hb⟩; refine ⟨_, rfl, ?_⟩; have n0_ := Aside0.mk (Kd.R_elder' (by (with_reducible repeat (first | apply Kd.R_alloc | apply Kd.R_drewN | apply Kd.R_drew)); exact HO389.out) (Kd.R_base ho0) hb); have n1_ := Aside0.mk (Kd.R_elder' (by (with_reducible repeat (first | apply Kd.R_alloc | apply Kd.R_drewN | apply Kd.R_drew)); exact HO393.out) (Kd.R_base ho0) hb); have n2_ := Aside0.mk (Kd.R_elder' (by (with_reducible repeat (first | apply Kd.R_alloc | apply Kd.R_drewN | apply Kd.R_drew)); exact HO397.out) (Kd.R_base ho0) hb); have n3_ := Aside0.mk (Kd.R_elder' (by (with_reducible repeat (first | apply Kd.R_alloc | apply Kd.R_drewN | apply Kd.R_drew)); exact HO409.out) (Kd.R_base ho0) hb); have n4_ := Aside0.mk (Kd.R_elder' (by (with_reducible repeat (first | apply Kd.R_alloc | apply Kd.R_drewN | apply Kd.R_drew)); exact HO414.out) (Kd.R_base ho0) hb); have n5_ := Aside0.mk (Kd.R_lower (Kd.R_new' (Kd.R_new' (Kd.R_new' (Kd.R_new' (Kd.R_new' ho0 (Kd.R_lt (by (with_reducible repeat (first | apply Kd.R_alloc | apply Kd.R_drewN | apply Kd.R_drew)); exact HO389.out))) (Kd.R_lt (by (with_reducible repeat (first | apply Kd.R_alloc | apply Kd.R_drewN | apply Kd.R_drew)); exact HO393.out))) (Kd.R_lt (by (with_reducible repeat (first | apply Kd.R_alloc | apply Kd.R_drewN | apply Kd.R_drew)); exact HO397.out))) (Kd.R_lt (by (with_reducible repeat (first | apply Kd.R_alloc | apply Kd.R_drewN | apply Kd.R_drew)); exact HO409.out))) (Kd.R_lt (by (with_reducible repeat (first | apply Kd.R_alloc | apply Kd.R_drewN | apply Kd.R_drew)); exact HO414.out))) (below_size (by repeat (first | (with_reducible first | exact HB.out | apply below_alloc | apply pw_below_drewN | apply below_drew1) | exact HB.out)))); have n6_ := Aside0.mk (below_step (by repeat (first | (with_reducible first | exact HB.out | apply below_alloc | apply pw_below_drewN | apply below_drew1) | exact HB.out)) hb); clear HO389; clear HO393; clear HO397; clear HO409; clear HO414; clear HB; have HO389 := n0_; have HO393 := n1_; have HO397 := n2_; have HO409 := n3_; have HO414 := n4_; have HO427 := n5_; have HB := n6_; clear n0_ n1_ n2_ n3_ n4_ n5_ n6_; (try clear hb); (try clear hb2); (try clear hk); (try clear hi); (try clear ho0)) | ((with_reducible refine gate_callee (f := 13) rfl ?_); refine goesL_ (some 134) rfl rfl Try.func13 (by kernel_rfl) rfl #[.int .i64 t422, .int .i64 t423] rfl (by (try simp only [List.map_toArray, List.map_cons, List.map_nil]); first | done | rfl | (simp only [List.length_drop, List.length_take]; rfl)) ?_; (with_reducible refine (spec_ShareGores.calls k t422 t423 t428 t429 _ A17.out).mono ?_); rintro e w31 ⟨v430, rfl, ho0, hb⟩; refine ⟨_, rfl, ?_⟩; have n0_ := Aside0.mk (Kd.R_elder' (by (with_reducible repeat (first | apply Kd.R_alloc | apply Kd.R_drewN | apply Kd.R_drew)); exact HO389.out) (Kd.R_base ho0) hb); have n1_ := Aside0.mk (Kd.R_elder' (by (with_reducible repeat (first | apply Kd.R_alloc | apply Kd.R_drewN | apply Kd.R_drew)); exact HO393.out) (Kd.R_base ho0) hb); have n2_ := Aside0.mk (Kd.R_elder' (by (with_reducible repeat (first | apply Kd.R_alloc | apply Kd.R_drewN | apply Kd.R_drew)); exact HO397.out) (Kd.R_base ho0) hb); have n3_ := Aside0.mk (Kd.R_elder' (by (with_reducible repeat (first | apply Kd.R_alloc | apply Kd.R_drewN | apply Kd.R_drew)); exact HO409.out) (Kd.R_base ho0) hb); have n4_ := Aside0.mk (Kd.R_elder' (by (with_reducible repeat (first | apply Kd.R_alloc | apply Kd.R_drewN | apply Kd.R_drew)); exact HO414.out) (Kd.R_base ho0) hb); have n5_ := Aside0.mk (Kd.R_elder' (by (with_reducible repeat (first | apply Kd.R_alloc | apply Kd.R_drewN | apply Kd.R_drew)); exact HO427.out) (Kd.R_base ho0) hb); have n6_ := Aside0.mk (Kd.R_lower (Kd.R_new' (Kd.R_new' (Kd.R_new' (Kd.R_new' (Kd.R_new' (Kd.R_new' ho0 (Kd.R_lt (by (with_reducible repeat (first | apply Kd.R_alloc | apply Kd.R_drewN | apply Kd.R_drew)); exact HO389.out))) (Kd.R_lt (by (with_reducible repeat (first | apply Kd.R_alloc | apply Kd.R_drewN | apply Kd.R_drew)); exact HO393.out))) (Kd.R_lt (by (with_reducible repeat (first | apply Kd.R_alloc | apply Kd.R_drewN | apply Kd.R_drew)); exact HO397.out))) (Kd.R_lt (by (with_reducible repeat (first | apply Kd.R_alloc | apply Kd.R_drewN | apply Kd.R_drew)); exact HO409.out))) (Kd.R_lt (by (with_reducible repeat (first | apply Kd.R_alloc | apply Kd.R_drewN | apply Kd.R_drew)); exact HO414.out))) (Kd.R_lt (by (with_reducible repeat (first | apply Kd.R_alloc | apply Kd.R_drewN | apply Kd.R_drew)); exact HO427.out))) (below_size (by repeat (first | (with_reducible first | exact HB.out | apply below_alloc | apply pw_below_drewN | apply below_drew1) | exact HB.out)))); have n7_ := Aside0.mk (below_step (by repeat (first | (with_reducible first | exact HB.out | apply below_alloc | apply pw_below_drewN | apply below_drew1) | exact HB.out)) hb); clear HO389; clear HO393; clear HO397; clear HO409; clear HO414; clear HO427; clear HB; have HO389 := n0_; have HO393 := n1_; have HO397 := n2_; have HO409 := n3_; have HO414 := n4_; have HO427 := n5_; have HO431 := n6_; have HB := n7_; clear n0_ n1_ n2_ n3_ n4_ n5_ n6_ n7_; (try clear hb); (try clear hb2); (try clear hk); (try clear hi); (try clear ho0)))
    (try simp only [Act.put, List.setIfInBounds_toArray, List.set_cons_zero, List.set_cons_succ])
    go_cut [192] (fun v192 wc => ∃ (kq : Nat) (x192_17 : Bool), v192 = .bool x192_17 ∧ Aside0 (laws_FnPasting.j0 kq t385 t386 t387 t391 t394 t400 t402 t403 t404 t405 t407 t411 t422 t423 t425 t428 x192_17 = some r) ∧ Aside0 (kq ≤ k) ∧ Aside0 (Kd.R (Kd.int .i64) 2 wc w.heap.size (fun k_ => some k_ ≠ (v396 : Value).ownBlock ∧ some k_ ≠ (v408 : Value).ownBlock ∧ some k_ ≠ (v430 : Value).ownBlock) (.slice Ao20 t385.length co20) t385) ∧ Aside0 (Kd.R (Kd.int .i64) 2 wc w.heap.size (fun k_ => some k_ ≠ ((.slice Ao20 t385.length co20) : Value).ownBlock ∧ some k_ ≠ (v408 : Value).ownBlock ∧ some k_ ≠ (v430 : Value).ownBlock) v396 t394) ∧ Aside0 (Kd.R (Kd.int .i64) 2 wc w.heap.size (fun k_ => some k_ ≠ ((.slice Ao20 t385.length co20) : Value).ownBlock ∧ some k_ ≠ (v396 : Value).ownBlock ∧ some k_ ≠ (v430 : Value).ownBlock) v408 t405) ∧ Aside0 (Kd.R (Kd.int .i64) 2 wc w.heap.size (fun k_ => some k_ ≠ ((.slice Ao20 t385.length co20) : Value).ownBlock ∧ some k_ ≠ (v396 : Value).ownBlock ∧ some k_ ≠ (v408 : Value).ownBlock) v430 t428) ∧ Aside0 (Below w.heap.size w wc))
    case first => as_aux_lemma =>
      have H := HC18.out
      clear HC18
      by_cases c32 : t391 = t395
      · as_aux_lemma =>
        rw [if_pos c32] at H
        have c32b0 : (t391 == t395) = true := beq_iff_eq.mpr c32
        have c32b1 : (t391 != t395) = false := bne_eq_false_iff_eq.mpr c32
        clear c32
        (first | rw [c32b0] | (simp only [i64_w, i32_w]; rw [c32b0]) | skip)
        replace H := Option.bind_eq_some_iff.mp H
        obtain ⟨t432, A330, H⟩ := H
        replace H : (if t432 = true then (if t399 = t401 then (if t398 = t400 then (if t407 = t412 then ((laws_f6ints.f k t405 t410).bind fun t433 => (if t433 = true then (if t406 = t411 then (if t419 = t421 then (if t418 = t420 then (if t425 = t429 then ((laws_f6ints.f k t424 t428).bind fun t434 => (laws_FnPasting.j0 k t385 t386 t387 t391 t394 t400 t402 t403 t404 t405 t407 t411 t422 t423 t425 t428 (!t434))) else (laws_FnPasting.j0 k t385 t386 t387 t391 t394 t400 t402 t403 t404 t405 t407 t411 t422 t423 t425 t428 true)) else (laws_FnPasting.j0 k t385 t386 t387 t391 t394 t400 t402 t403 t404 t405 t407 t411 t422 t423 t425 t428 true)) else (laws_FnPasting.j0 k t385 t386 t387 t391 t394 t400 t402 t403 t404 t405 t407 t411 t422 t423 t425 t428 true)) else (laws_FnPasting.j0 k t385 t386 t387 t391 t394 t400 t402 t403 t404 t405 t407 t411 t422 t423 t425 t428 true)) else (laws_FnPasting.j0 k t385 t386 t387 t391 t394 t400 t402 t403 t404 t405 t407 t411 t422 t423 t425 t428 true))) else (laws_FnPasting.j0 k t385 t386 t387 t391 t394 t400 t402 t403 t404 t405 t407 t411 t422 t423 t425 t428 true)) else (laws_FnPasting.j0 k t385 t386 t387 t391 t394 t400 t402 t403 t404 t405 t407 t411 t422 t423 t425 t428 true)) else (laws_FnPasting.j0 k t385 t386 t387 t391 t394 t400 t402 t403 t404 t405 t407 t411 t422 t423 t425 t428 true)) else (laws_FnPasting.j0 k t385 t386 t387 t391 t394 t400 t402 t403 t404 t405 t407 t411 t422 t423 t425 t428 true)) = some r := H
        have A33 := Aside0.mk A330
        clear A330
        by_cases c34 : t432 = true
        · as_aux_lemma =>
          subst c34
          have H1 : (if t399 = t401 then (if t398 = t400 then (if t407 = t412 then ((laws_f6ints.f k t405 t410).bind fun t433 => (if t433 = true then (if t406 = t411 then (if t419 = t421 then (if t418 = t420 then (if t425 = t429 then ((laws_f6ints.f k t424 t428).bind fun t434 => (laws_FnPasting.j0 k t385 t386 t387 t391 t394 t400 t402 t403 t404 t405 t407 t411 t422 t423 t425 t428 (!t434))) else (laws_FnPasting.j0 k t385 t386 t387 t391 t394 t400 t402 t403 t404 t405 t407 t411 t422 t423 t425 t428 true)) else (laws_FnPasting.j0 k t385 t386 t387 t391 t394 t400 t402 t403 t404 t405 t407 t411 t422 t423 t425 t428 true)) else (laws_FnPasting.j0 k t385 t386 t387 t391 t394 t400 t402 t403 t404 t405 t407 t411 t422 t423 t425 t428 true)) else (laws_FnPasting.j0 k t385 t386 t387 t391 t394 t400 t402 t403 t404 t405 t407 t411 t422 t423 t425 t428 true)) else (laws_FnPasting.j0 k t385 t386 t387 t391 t394 t400 t402 t403 t404 t405 t407 t411 t422 t423 t425 t428 true))) else (laws_FnPasting.j0 k t385 t386 t387 t391 t394 t400 t402 t403 t404 t405 t407 t411 t422 t423 t425 t428 true)) else (laws_FnPasting.j0 k t385 t386 t387 t391 t394 t400 t402 t403 t404 t405 t407 t411 t422 t423 t425 t428 true)) else (laws_FnPasting.j0 k t385 t386 t387 t391 t394 t400 t402 t403 t404 t405 t407 t411 t422 t423 t425 t428 true)) = some r := by rw [if_pos rfl] at H; exact H
          clear H
          have H := H1
          clear H1
          by_cases c35 : t399 = t401
          · as_aux_lemma =>
            rw [if_pos c35] at H
            have c35b0 : (t399 == t401) = true := beq_iff_eq.mpr c35
            have c35b1 : (t399 != t401) = false := bne_eq_false_iff_eq.mpr c35
            clear c35
            by_cases c36 : t398 = t400
            · as_aux_lemma =>
              rw [if_pos c36] at H
              have c36b0 : (t398 == t400) = true := beq_iff_eq.mpr c36
              have c36b1 : (t398 != t400) = false := bne_eq_false_iff_eq.mpr c36
              clear c36
              by_cases c37 : t407 = t412
              · as_aux_lemma =>
                rw [if_pos c37] at H
                have c37b0 : (t407 == t412) = true := beq_iff_eq.mpr c37
                have c37b1 : (t407 != t412) = false := bne_eq_false_iff_eq.mpr c37
                clear c37
                replace H := Option.bind_eq_some_iff.mp H
                obtain ⟨t433, A380, H⟩ := H
                replace H : (if t433 = true then (if t406 = t411 then (if t419 = t421 then (if t418 = t420 then (if t425 = t429 then ((laws_f6ints.f k t424 t428).bind fun t434 => (laws_FnPasting.j0 k t385 t386 t387 t391 t394 t400 t402 t403 t404 t405 t407 t411 t422 t423 t425 t428 (!t434))) else (laws_FnPasting.j0 k t385 t386 t387 t391 t394 t400 t402 t403 t404 t405 t407 t411 t422 t423 t425 t428 true)) else (laws_FnPasting.j0 k t385 t386 t387 t391 t394 t400 t402 t403 t404 t405 t407 t411 t422 t423 t425 t428 true)) else (laws_FnPasting.j0 k t385 t386 t387 t391 t394 t400 t402 t403 t404 t405 t407 t411 t422 t423 t425 t428 true)) else (laws_FnPasting.j0 k t385 t386 t387 t391 t394 t400 t402 t403 t404 t405 t407 t411 t422 t423 t425 t428 true)) else (laws_FnPasting.j0 k t385 t386 t387 t391 t394 t400 t402 t403 t404 t405 t407 t411 t422 t423 t425 t428 true)) = some r := H
                have A38 := Aside0.mk A380
                clear A380
                by_cases c39 : t433 = true
                · as_aux_lemma =>
                  subst c39
                  have H1 : (if t406 = t411 then (if t419 = t421 then (if t418 = t420 then (if t425 = t429 then ((laws_f6ints.f k t424 t428).bind fun t434 => (laws_FnPasting.j0 k t385 t386 t387 t391 t394 t400 t402 t403 t404 t405 t407 t411 t422 t423 t425 t428 (!t434))) else (laws_FnPasting.j0 k t385 t386 t387 t391 t394 t400 t402 t403 t404 t405 t407 t411 t422 t423 t425 t428 true)) else (laws_FnPasting.j0 k t385 t386 t387 t391 t394 t400 t402 t403 t404 t405 t407 t411 t422 t423 t425 t428 true)) else (laws_FnPasting.j0 k t385 t386 t387 t391 t394 t400 t402 t403 t404 t405 t407 t411 t422 t423 t425 t428 true)) else (laws_FnPasting.j0 k t385 t386 t387 t391 t394 t400 t402 t403 t404 t405 t407 t411 t422 t423 t425 t428 true)) = some r := by rw [if_pos rfl] at H; exact H
                  clear H
                  have H := H1
                  clear H1
                  by_cases c40 : t406 = t411
                  · as_aux_lemma =>
                    rw [if_pos c40] at H
                    have c40b0 : (t406 == t411) = true := beq_iff_eq.mpr c40
                    have c40b1 : (t406 != t411) = false := bne_eq_false_iff_eq.mpr c40
                    clear c40
                    by_cases c41 : t419 = t421
                    · as_aux_lemma =>
                      rw [if_pos c41] at H
                      have c41b0 : (t419 == t421) = true := beq_iff_eq.mpr c41
                      have c41b1 : (t419 != t421) = false := bne_eq_false_iff_eq.mpr c41
                      clear c41
                      by_cases c42 : t418 = t420
                      · as_aux_lemma =>
                        rw [if_pos c42] at H
                        have c42b0 : (t418 == t420) = true := beq_iff_eq.mpr c42
                        have c42b1 : (t418 != t420) = false := bne_eq_false_iff_eq.mpr c42
                        clear c42
                        by_cases c43 : t425 = t429
                        · as_aux_lemma =>
                          rw [if_pos c43] at H
                          have c43b0 : (t425 == t429) = true := beq_iff_eq.mpr c43
                          have c43b1 : (t425 != t429) = false := bne_eq_false_iff_eq.mpr c43
                          clear c43
                          replace H := Option.bind_eq_some_iff.mp H
                          obtain ⟨t434, A440, H⟩ := H
                          replace H : (laws_FnPasting.j0 k t385 t386 t387 t391 t394 t400 t402 t403 t404 t405 t407 t411 t422 t423 t425 t428 (!t434)) = some r := H
                          have A44 := Aside0.mk A440
                          clear A440
                          have H' := Aside0.mk H
                          clear H
                          obtain ⟨Ao45, co45, eo45⟩ := Kd.R_slice HO393.out
                          subst eo45
                          obtain ⟨Ao46, co46, eo46⟩ := Kd.R_slice HO397.out
                          subst eo46
                          go_wp2_with (first | (go_at_call 34; (with_reducible refine (laws_f6ints.calls k _ _ t390 _ _ t394 true _ ?side1 ?side2 ?side3 ?side4 A33.out).mono ?_); (case side1 => repeat (first | exact (Kd.R_reads' HO393.out).2.2 | (with_reducible refine Kd.C_alloc ?_ _) | (with_reducible refine Kd.C_drewN ?_ _) | (with_reducible refine Kd.C_drew ?_))); (case side2 => exact (Kd.R_reads' HO393.out).2.1); (case side3 => repeat (first | exact (Kd.R_reads' HO397.out).2.2 | (with_reducible refine Kd.C_alloc ?_ _) | (with_reducible refine Kd.C_drewN ?_ _) | (with_reducible refine Kd.C_drew ?_))); (case side4 => exact (Kd.R_reads' HO397.out).2.1); rintro e w' ⟨rfl, ⟨nd, rfl⟩⟩; obtain ⟨Ao47, co47, eo47⟩ := Kd.R_slice HO409.out; subst eo47; obtain ⟨Ao48, co48, eo48⟩ := Kd.R_slice HO414.out; subst eo48) | (go_at_call 34; (with_reducible refine (laws_f6ints.calls k _ _ t405 _ _ t410 true _ ?side1 ?side2 ?side3 ?side4 A38.out).mono ?_); (case side1 => repeat (first | exact (Kd.R_reads' HO409.out).2.2 | (with_reducible refine Kd.C_alloc ?_ _) | (with_reducible refine Kd.C_drewN ?_ _) | (with_reducible refine Kd.C_drew ?_))); (case side2 => exact (Kd.R_reads' HO409.out).2.1); (case side3 => repeat (first | exact (Kd.R_reads' HO414.out).2.2 | (with_reducible refine Kd.C_alloc ?_ _) | (with_reducible refine Kd.C_drewN ?_ _) | (with_reducible refine Kd.C_drew ?_))); (case side4 => exact (Kd.R_reads' HO414.out).2.1); rintro e w' ⟨rfl, ⟨nd, rfl⟩⟩; obtain ⟨Ao49, co49, eo49⟩ := Kd.R_slice HO427.out; subst eo49; obtain ⟨Ao50, co50, eo50⟩ := Kd.R_slice HO431.out; subst eo50) | (go_at_call 34; (with_reducible refine (laws_f6ints.calls k _ _ t424 _ _ t428 t434 _ ?side1 ?side2 ?side3 ?side4 A44.out).mono ?_); (case side1 => repeat (first | exact (Kd.R_reads' HO427.out).2.2 | (with_reducible refine Kd.C_alloc ?_ _) | (with_reducible refine Kd.C_drewN ?_ _) | (with_reducible refine Kd.C_drew ?_))); (case side2 => exact (Kd.R_reads' HO427.out).2.1); (case side3 => repeat (first | exact (Kd.R_reads' HO431.out).2.2 | (with_reducible refine Kd.C_alloc ?_ _) | (with_reducible refine Kd.C_drewN ?_ _) | (with_reducible refine Kd.C_drew ?_))); (case side4 => exact (Kd.R_reads' HO431.out).2.1); rintro e w' ⟨rfl, ⟨nd, rfl⟩⟩))
                          go_meet
                          case rel => exact ⟨_, (!t434), (by first | rfl | (simp; done) | (simp [*]; done)), H', ⟨by first | omega | exact Nat.le_refl _⟩, ⟨by (with_reducible repeat (first | apply Kd.R_alloc | apply Kd.R_drewN | apply Kd.R_drew)); exact Kd.R_mono HO389.out (fun _ hk => ⟨hk.1.1.1.1.2, ⟨hk.1.1.1.2, hk.2⟩⟩)⟩, ⟨by (with_reducible repeat (first | apply Kd.R_alloc | apply Kd.R_drewN | apply Kd.R_drew)); exact Kd.R_mono HO397.out (fun _ hk => ⟨hk.1.1.1.1.1.2, ⟨hk.1.1.1.2, hk.2⟩⟩)⟩, ⟨by (with_reducible repeat (first | apply Kd.R_alloc | apply Kd.R_drewN | apply Kd.R_drew)); exact Kd.R_mono HO409.out (fun _ hk => ⟨hk.1.1.1.1.1.2, ⟨hk.1.1.1.2, hk.2⟩⟩)⟩, ⟨by (with_reducible repeat (first | apply Kd.R_alloc | apply Kd.R_drewN | apply Kd.R_drew)); exact Kd.R_mono HO431.out (fun _ hk => ⟨hk.1.1.1.1.1.2, ⟨hk.1.1.1.2, hk.1.1.2⟩⟩)⟩, ⟨by repeat (first | (with_reducible first | exact HB.out | apply below_alloc | apply pw_below_drewN | apply below_drew1) | exact HB.out)⟩⟩
                        · as_aux_lemma =>
                          rw [if_neg c43] at H
                          have c43b0 : (t425 == t429) = false := beq_eq_false_iff_ne.mpr c43
                          have c43b1 : (t425 != t429) = true := bne_iff_ne.mpr c43
                          have H' := Aside0.mk H
                          clear H
                          obtain ⟨Ao51, co51, eo51⟩ := Kd.R_slice HO393.out
                          subst eo51
                          obtain ⟨Ao52, co52, eo52⟩ := Kd.R_slice HO397.out
                          subst eo52
                          go_wp2_with (first | (go_at_call 34; (with_reducible refine (laws_f6ints.calls k _ _ t390 _ _ t394 true _ ?side1 ?side2 ?side3 ?side4 A33.out).mono ?_); (case side1 => repeat (first | exact (Kd.R_reads' HO393.out).2.2 | (with_reducible refine Kd.C_alloc ?_ _) | (with_reducible refine Kd.C_drewN ?_ _) | (with_reducible refine Kd.C_drew ?_))); (case side2 => exact (Kd.R_reads' HO393.out).2.1); (case side3 => repeat (first | exact (Kd.R_reads' HO397.out).2.2 | (with_reducible refine Kd.C_alloc ?_ _) | (with_reducible refine Kd.C_drewN ?_ _) | (with_reducible refine Kd.C_drew ?_))); (case side4 => exact (Kd.R_reads' HO397.out).2.1); rintro e w' ⟨rfl, ⟨nd, rfl⟩⟩; obtain ⟨Ao53, co53, eo53⟩ := Kd.R_slice HO409.out; subst eo53; obtain ⟨Ao54, co54, eo54⟩ := Kd.R_slice HO414.out; subst eo54) | (go_at_call 34; (with_reducible refine (laws_f6ints.calls k _ _ t405 _ _ t410 true _ ?side1 ?side2 ?side3 ?side4 A38.out).mono ?_); (case side1 => repeat (first | exact (Kd.R_reads' HO409.out).2.2 | (with_reducible refine Kd.C_alloc ?_ _) | (with_reducible refine Kd.C_drewN ?_ _) | (with_reducible refine Kd.C_drew ?_))); (case side2 => exact (Kd.R_reads' HO409.out).2.1); (case side3 => repeat (first | exact (Kd.R_reads' HO414.out).2.2 | (with_reducible refine Kd.C_alloc ?_ _) | (with_reducible refine Kd.C_drewN ?_ _) | (with_reducible refine Kd.C_drew ?_))); (case side4 => exact (Kd.R_reads' HO414.out).2.1); rintro e w' ⟨rfl, ⟨nd, rfl⟩⟩))
                          go_meet
                          case rel => exact ⟨_, (true), (by first | rfl | (simp; done) | (simp [*]; done)), H', ⟨by first | omega | exact Nat.le_refl _⟩, ⟨by (with_reducible repeat (first | apply Kd.R_alloc | apply Kd.R_drewN | apply Kd.R_drew)); exact Kd.R_mono HO389.out (fun _ hk => ⟨hk.1.1.1.1.2, ⟨hk.1.1.1.2, hk.2⟩⟩)⟩, ⟨by (with_reducible repeat (first | apply Kd.R_alloc | apply Kd.R_drewN | apply Kd.R_drew)); exact Kd.R_mono HO397.out (fun _ hk => ⟨hk.1.1.1.1.1.2, ⟨hk.1.1.1.2, hk.2⟩⟩)⟩, ⟨by (with_reducible repeat (first | apply Kd.R_alloc | apply Kd.R_drewN | apply Kd.R_drew)); exact Kd.R_mono HO409.out (fun _ hk => ⟨hk.1.1.1.1.1.2, ⟨hk.1.1.1.2, hk.2⟩⟩)⟩, ⟨by (with_reducible repeat (first | apply Kd.R_alloc | apply Kd.R_drewN | apply Kd.R_drew)); exact Kd.R_mono HO431.out (fun _ hk => ⟨hk.1.1.1.1.1.2, ⟨hk.1.1.1.2, hk.1.1.2⟩⟩)⟩, ⟨by repeat (first | (with_reducible first | exact HB.out | apply below_alloc | apply pw_below_drewN | apply below_drew1) | exact HB.out)⟩⟩
                      · as_aux_lemma =>
                        rw [if_neg c42] at H
                        have c42b0 : (t418 == t420) = false := beq_eq_false_iff_ne.mpr c42
                        have c42b1 : (t418 != t420) = true := bne_iff_ne.mpr c42
                        have H' := Aside0.mk H
                        clear H
                        obtain ⟨Ao55, co55, eo55⟩ := Kd.R_slice HO393.out
                        subst eo55
                        obtain ⟨Ao56, co56, eo56⟩ := Kd.R_slice HO397.out
                        subst eo56
                        go_wp2_with (first | (go_at_call 34; (with_reducible refine (laws_f6ints.calls k _ _ t390 _ _ t394 true _ ?side1 ?side2 ?side3 ?side4 A33.out).mono ?_); (case side1 => repeat (first | exact (Kd.R_reads' HO393.out).2.2 | (with_reducible refine Kd.C_alloc ?_ _) | (with_reducible refine Kd.C_drewN ?_ _) | (with_reducible refine Kd.C_drew ?_))); (case side2 => exact (Kd.R_reads' HO393.out).2.1); (case side3 => repeat (first | exact (Kd.R_reads' HO397.out).2.2 | (with_reducible refine Kd.C_alloc ?_ _) | (with_reducible refine Kd.C_drewN ?_ _) | (with_reducible refine Kd.C_drew ?_))); (case side4 => exact (Kd.R_reads' HO397.out).2.1); rintro e w' ⟨rfl, ⟨nd, rfl⟩⟩; obtain ⟨Ao57, co57, eo57⟩ := Kd.R_slice HO409.out; subst eo57; obtain ⟨Ao58, co58, eo58⟩ := Kd.R_slice HO414.out; subst eo58) | (go_at_call 34; (with_reducible refine (laws_f6ints.calls k _ _ t405 _ _ t410 true _ ?side1 ?side2 ?side3 ?side4 A38.out).mono ?_); (case side1 => repeat (first | exact (Kd.R_reads' HO409.out).2.2 | (with_reducible refine Kd.C_alloc ?_ _) | (with_reducible refine Kd.C_drewN ?_ _) | (with_reducible refine Kd.C_drew ?_))); (case side2 => exact (Kd.R_reads' HO409.out).2.1); (case side3 => repeat (first | exact (Kd.R_reads' HO414.out).2.2 | (with_reducible refine Kd.C_alloc ?_ _) | (with_reducible refine Kd.C_drewN ?_ _) | (with_reducible refine Kd.C_drew ?_))); (case side4 => exact (Kd.R_reads' HO414.out).2.1); rintro e w' ⟨rfl, ⟨nd, rfl⟩⟩))
                        go_meet
                        case rel => exact ⟨_, (true), (by first | rfl | (simp; done) | (simp [*]; done)), H', ⟨by first | omega | exact Nat.le_refl _⟩, ⟨by (with_reducible repeat (first | apply Kd.R_alloc | apply Kd.R_drewN | apply Kd.R_drew)); exact Kd.R_mono HO389.out (fun _ hk => ⟨hk.1.1.1.1.2, ⟨hk.1.1.1.2, hk.2⟩⟩)⟩, ⟨by (with_reducible repeat (first | apply Kd.R_alloc | apply Kd.R_drewN | apply Kd.R_drew)); exact Kd.R_mono HO397.out (fun _ hk => ⟨hk.1.1.1.1.1.2, ⟨hk.1.1.1.2, hk.2⟩⟩)⟩, ⟨by (with_reducible repeat (first | apply Kd.R_alloc | apply Kd.R_drewN | apply Kd.R_drew)); exact Kd.R_mono HO409.out (fun _ hk => ⟨hk.1.1.1.1.1.2, ⟨hk.1.1.1.2, hk.2⟩⟩)⟩, ⟨by (with_reducible repeat (first | apply Kd.R_alloc | apply Kd.R_drewN | apply Kd.R_drew)); exact Kd.R_mono HO431.out (fun _ hk => ⟨hk.1.1.1.1.1.2, ⟨hk.1.1.1.2, hk.1.1.2⟩⟩)⟩, ⟨by repeat (first | (with_reducible first | exact HB.out | apply below_alloc | apply pw_below_drewN | apply below_drew1) | exact HB.out)⟩⟩
                    · as_aux_lemma =>
                      rw [if_neg c41] at H
                      have c41b0 : (t419 == t421) = false := beq_eq_false_iff_ne.mpr c41
                      have c41b1 : (t419 != t421) = true := bne_iff_ne.mpr c41
                      have H' := Aside0.mk H
                      clear H
                      obtain ⟨Ao59, co59, eo59⟩ := Kd.R_slice HO393.out
                      subst eo59
                      obtain ⟨Ao60, co60, eo60⟩ := Kd.R_slice HO397.out
                      subst eo60
                      go_wp2_with (first | (go_at_call 34; (with_reducible refine (laws_f6ints.calls k _ _ t390 _ _ t394 true _ ?side1 ?side2 ?side3 ?side4 A33.out).mono ?_); (case side1 => repeat (first | exact (Kd.R_reads' HO393.out).2.2 | (with_reducible refine Kd.C_alloc ?_ _) | (with_reducible refine Kd.C_drewN ?_ _) | (with_reducible refine Kd.C_drew ?_))); (case side2 => exact (Kd.R_reads' HO393.out).2.1); (case side3 => repeat (first | exact (Kd.R_reads' HO397.out).2.2 | (with_reducible refine Kd.C_alloc ?_ _) | (with_reducible refine Kd.C_drewN ?_ _) | (with_reducible refine Kd.C_drew ?_))); (case side4 => exact (Kd.R_reads' HO397.out).2.1); rintro e w' ⟨rfl, ⟨nd, rfl⟩⟩; obtain ⟨Ao61, co61, eo61⟩ := Kd.R_slice HO409.out; subst eo61; obtain ⟨Ao62, co62, eo62⟩ := Kd.R_slice HO414.out; subst eo62) | (go_at_call 34; (with_reducible refine (laws_f6ints.calls k _ _ t405 _ _ t410 true _ ?side1 ?side2 ?side3 ?side4 A38.out).mono ?_); (case side1 => repeat (first | exact (Kd.R_reads' HO409.out).2.2 | (with_reducible refine Kd.C_alloc ?_ _) | (with_reducible refine Kd.C_drewN ?_ _) | (with_reducible refine Kd.C_drew ?_))); (case side2 => exact (Kd.R_reads' HO409.out).2.1); (case side3 => repeat (first | exact (Kd.R_reads' HO414.out).2.2 | (with_reducible refine Kd.C_alloc ?_ _) | (with_reducible refine Kd.C_drewN ?_ _) | (with_reducible refine Kd.C_drew ?_))); (case side4 => exact (Kd.R_reads' HO414.out).2.1); rintro e w' ⟨rfl, ⟨nd, rfl⟩⟩))
                      go_meet
                      case rel => exact ⟨_, (true), (by first | rfl | (simp; done) | (simp [*]; done)), H', ⟨by first | omega | exact Nat.le_refl _⟩, ⟨by (with_reducible repeat (first | apply Kd.R_alloc | apply Kd.R_drewN | apply Kd.R_drew)); exact Kd.R_mono HO389.out (fun _ hk => ⟨hk.1.1.1.1.2, ⟨hk.1.1.1.2, hk.2⟩⟩)⟩, ⟨by (with_reducible repeat (first | apply Kd.R_alloc | apply Kd.R_drewN | apply Kd.R_drew)); exact Kd.R_mono HO397.out (fun _ hk => ⟨hk.1.1.1.1.1.2, ⟨hk.1.1.1.2, hk.2⟩⟩)⟩, ⟨by (with_reducible repeat (first | apply Kd.R_alloc | apply Kd.R_drewN | apply Kd.R_drew)); exact Kd.R_mono HO409.out (fun _ hk => ⟨hk.1.1.1.1.1.2, ⟨hk.1.1.1.2, hk.2⟩⟩)⟩, ⟨by (with_reducible repeat (first | apply Kd.R_alloc | apply Kd.R_drewN | apply Kd.R_drew)); exact Kd.R_mono HO431.out (fun _ hk => ⟨hk.1.1.1.1.1.2, ⟨hk.1.1.1.2, hk.1.1.2⟩⟩)⟩, ⟨by repeat (first | (with_reducible first | exact HB.out | apply below_alloc | apply pw_below_drewN | apply below_drew1) | exact HB.out)⟩⟩
                  · as_aux_lemma =>
                    rw [if_neg c40] at H
                    have c40b0 : (t406 == t411) = false := beq_eq_false_iff_ne.mpr c40
                    have c40b1 : (t406 != t411) = true := bne_iff_ne.mpr c40
                    have H' := Aside0.mk H
                    clear H
                    obtain ⟨Ao63, co63, eo63⟩ := Kd.R_slice HO393.out
                    subst eo63
                    obtain ⟨Ao64, co64, eo64⟩ := Kd.R_slice HO397.out
                    subst eo64
                    go_wp2_with (first | (go_at_call 34; (with_reducible refine (laws_f6ints.calls k _ _ t390 _ _ t394 true _ ?side1 ?side2 ?side3 ?side4 A33.out).mono ?_); (case side1 => repeat (first | exact (Kd.R_reads' HO393.out).2.2 | (with_reducible refine Kd.C_alloc ?_ _) | (with_reducible refine Kd.C_drewN ?_ _) | (with_reducible refine Kd.C_drew ?_))); (case side2 => exact (Kd.R_reads' HO393.out).2.1); (case side3 => repeat (first | exact (Kd.R_reads' HO397.out).2.2 | (with_reducible refine Kd.C_alloc ?_ _) | (with_reducible refine Kd.C_drewN ?_ _) | (with_reducible refine Kd.C_drew ?_))); (case side4 => exact (Kd.R_reads' HO397.out).2.1); rintro e w' ⟨rfl, ⟨nd, rfl⟩⟩; obtain ⟨Ao65, co65, eo65⟩ := Kd.R_slice HO409.out; subst eo65; obtain ⟨Ao66, co66, eo66⟩ := Kd.R_slice HO414.out; subst eo66) | (go_at_call 34; (with_reducible refine (laws_f6ints.calls k _ _ t405 _ _ t410 true _ ?side1 ?side2 ?side3 ?side4 A38.out).mono ?_); (case side1 => repeat (first | exact (Kd.R_reads' HO409.out).2.2 | (with_reducible refine Kd.C_alloc ?_ _) | (with_reducible refine Kd.C_drewN ?_ _) | (with_reducible refine Kd.C_drew ?_))); (case side2 => exact (Kd.R_reads' HO409.out).2.1); (case side3 => repeat (first | exact (Kd.R_reads' HO414.out).2.2 | (with_reducible refine Kd.C_alloc ?_ _) | (with_reducible refine Kd.C_drewN ?_ _) | (with_reducible refine Kd.C_drew ?_))); (case side4 => exact (Kd.R_reads' HO414.out).2.1); rintro e w' ⟨rfl, ⟨nd, rfl⟩⟩))
                    go_meet
                    case rel => exact ⟨_, (true), (by first | rfl | (simp; done) | (simp [*]; done)), H', ⟨by first | omega | exact Nat.le_refl _⟩, ⟨by (with_reducible repeat (first | apply Kd.R_alloc | apply Kd.R_drewN | apply Kd.R_drew)); exact Kd.R_mono HO389.out (fun _ hk => ⟨hk.1.1.1.1.2, ⟨hk.1.1.1.2, hk.2⟩⟩)⟩, ⟨by (with_reducible repeat (first | apply Kd.R_alloc | apply Kd.R_drewN | apply Kd.R_drew)); exact Kd.R_mono HO397.out (fun _ hk => ⟨hk.1.1.1.1.1.2, ⟨hk.1.1.1.2, hk.2⟩⟩)⟩, ⟨by (with_reducible repeat (first | apply Kd.R_alloc | apply Kd.R_drewN | apply Kd.R_drew)); exact Kd.R_mono HO409.out (fun _ hk => ⟨hk.1.1.1.1.1.2, ⟨hk.1.1.1.2, hk.2⟩⟩)⟩, ⟨by (with_reducible repeat (first | apply Kd.R_alloc | apply Kd.R_drewN | apply Kd.R_drew)); exact Kd.R_mono HO431.out (fun _ hk => ⟨hk.1.1.1.1.1.2, ⟨hk.1.1.1.2, hk.1.1.2⟩⟩)⟩, ⟨by repeat (first | (with_reducible first | exact HB.out | apply below_alloc | apply pw_below_drewN | apply below_drew1) | exact HB.out)⟩⟩
                · as_aux_lemma =>
                  replace c39 := Bool.eq_false_iff.mpr c39
                  subst c39
                  have H1 : (laws_FnPasting.j0 k t385 t386 t387 t391 t394 t400 t402 t403 t404 t405 t407 t411 t422 t423 t425 t428 true) = some r := by rw [if_neg (show ¬ (false = true) by decide)] at H; exact H
                  clear H
                  have H := H1
                  clear H1
                  have H' := Aside0.mk H
                  clear H
                  obtain ⟨Ao67, co67, eo67⟩ := Kd.R_slice HO393.out
                  subst eo67
                  obtain ⟨Ao68, co68, eo68⟩ := Kd.R_slice HO397.out
                  subst eo68
                  go_wp2_with (first | (go_at_call 34; (with_reducible refine (laws_f6ints.calls k _ _ t390 _ _ t394 true _ ?side1 ?side2 ?side3 ?side4 A33.out).mono ?_); (case side1 => repeat (first | exact (Kd.R_reads' HO393.out).2.2 | (with_reducible refine Kd.C_alloc ?_ _) | (with_reducible refine Kd.C_drewN ?_ _) | (with_reducible refine Kd.C_drew ?_))); (case side2 => exact (Kd.R_reads' HO393.out).2.1); (case side3 => repeat (first | exact (Kd.R_reads' HO397.out).2.2 | (with_reducible refine Kd.C_alloc ?_ _) | (with_reducible refine Kd.C_drewN ?_ _) | (with_reducible refine Kd.C_drew ?_))); (case side4 => exact (Kd.R_reads' HO397.out).2.1); rintro e w' ⟨rfl, ⟨nd, rfl⟩⟩; obtain ⟨Ao69, co69, eo69⟩ := Kd.R_slice HO409.out; subst eo69; obtain ⟨Ao70, co70, eo70⟩ := Kd.R_slice HO414.out; subst eo70) | (go_at_call 34; (with_reducible refine (laws_f6ints.calls k _ _ t405 _ _ t410 false _ ?side1 ?side2 ?side3 ?side4 A38.out).mono ?_); (case side1 => repeat (first | exact (Kd.R_reads' HO409.out).2.2 | (with_reducible refine Kd.C_alloc ?_ _) | (with_reducible refine Kd.C_drewN ?_ _) | (with_reducible refine Kd.C_drew ?_))); (case side2 => exact (Kd.R_reads' HO409.out).2.1); (case side3 => repeat (first | exact (Kd.R_reads' HO414.out).2.2 | (with_reducible refine Kd.C_alloc ?_ _) | (with_reducible refine Kd.C_drewN ?_ _) | (with_reducible refine Kd.C_drew ?_))); (case side4 => exact (Kd.R_reads' HO414.out).2.1); rintro e w' ⟨rfl, ⟨nd, rfl⟩⟩))
                  go_meet
                  case rel => exact ⟨_, (true), (by first | rfl | (simp; done) | (simp [*]; done)), H', ⟨by first | omega | exact Nat.le_refl _⟩, ⟨by (with_reducible repeat (first | apply Kd.R_alloc | apply Kd.R_drewN | apply Kd.R_drew)); exact Kd.R_mono HO389.out (fun _ hk => ⟨hk.1.1.1.1.2, ⟨hk.1.1.1.2, hk.2⟩⟩)⟩, ⟨by (with_reducible repeat (first | apply Kd.R_alloc | apply Kd.R_drewN | apply Kd.R_drew)); exact Kd.R_mono HO397.out (fun _ hk => ⟨hk.1.1.1.1.1.2, ⟨hk.1.1.1.2, hk.2⟩⟩)⟩, ⟨by (with_reducible repeat (first | apply Kd.R_alloc | apply Kd.R_drewN | apply Kd.R_drew)); exact Kd.R_mono HO409.out (fun _ hk => ⟨hk.1.1.1.1.1.2, ⟨hk.1.1.1.2, hk.2⟩⟩)⟩, ⟨by (with_reducible repeat (first | apply Kd.R_alloc | apply Kd.R_drewN | apply Kd.R_drew)); exact Kd.R_mono HO431.out (fun _ hk => ⟨hk.1.1.1.1.1.2, ⟨hk.1.1.1.2, hk.1.1.2⟩⟩)⟩, ⟨by repeat (first | (with_reducible first | exact HB.out | apply below_alloc | apply pw_below_drewN | apply below_drew1) | exact HB.out)⟩⟩
              · as_aux_lemma =>
                rw [if_neg c37] at H
                have c37b0 : (t407 == t412) = false := beq_eq_false_iff_ne.mpr c37
                have c37b1 : (t407 != t412) = true := bne_iff_ne.mpr c37
                have H' := Aside0.mk H
                clear H
                obtain ⟨Ao71, co71, eo71⟩ := Kd.R_slice HO393.out
                subst eo71
                obtain ⟨Ao72, co72, eo72⟩ := Kd.R_slice HO397.out
                subst eo72
                go_wp2_with (first | (go_at_call 34; (with_reducible refine (laws_f6ints.calls k _ _ t390 _ _ t394 true _ ?side1 ?side2 ?side3 ?side4 A33.out).mono ?_); (case side1 => repeat (first | exact (Kd.R_reads' HO393.out).2.2 | (with_reducible refine Kd.C_alloc ?_ _) | (with_reducible refine Kd.C_drewN ?_ _) | (with_reducible refine Kd.C_drew ?_))); (case side2 => exact (Kd.R_reads' HO393.out).2.1); (case side3 => repeat (first | exact (Kd.R_reads' HO397.out).2.2 | (with_reducible refine Kd.C_alloc ?_ _) | (with_reducible refine Kd.C_drewN ?_ _) | (with_reducible refine Kd.C_drew ?_))); (case side4 => exact (Kd.R_reads' HO397.out).2.1); rintro e w' ⟨rfl, ⟨nd, rfl⟩⟩))
                go_meet
                case rel => exact ⟨_, (true), (by first | rfl | (simp; done) | (simp [*]; done)), H', ⟨by first | omega | exact Nat.le_refl _⟩, ⟨by (with_reducible repeat (first | apply Kd.R_alloc | apply Kd.R_drewN | apply Kd.R_drew)); exact Kd.R_mono HO389.out (fun _ hk => ⟨hk.1.1.1.1.2, ⟨hk.1.1.1.2, hk.2⟩⟩)⟩, ⟨by (with_reducible repeat (first | apply Kd.R_alloc | apply Kd.R_drewN | apply Kd.R_drew)); exact Kd.R_mono HO397.out (fun _ hk => ⟨hk.1.1.1.1.1.2, ⟨hk.1.1.1.2, hk.2⟩⟩)⟩, ⟨by (with_reducible repeat (first | apply Kd.R_alloc | apply Kd.R_drewN | apply Kd.R_drew)); exact Kd.R_mono HO409.out (fun _ hk => ⟨hk.1.1.1.1.1.2, ⟨hk.1.1.1.2, hk.2⟩⟩)⟩, ⟨by (with_reducible repeat (first | apply Kd.R_alloc | apply Kd.R_drewN | apply Kd.R_drew)); exact Kd.R_mono HO431.out (fun _ hk => ⟨hk.1.1.1.1.1.2, ⟨hk.1.1.1.2, hk.1.1.2⟩⟩)⟩, ⟨by repeat (first | (with_reducible first | exact HB.out | apply below_alloc | apply pw_below_drewN | apply below_drew1) | exact HB.out)⟩⟩
            · as_aux_lemma =>
              rw [if_neg c36] at H
              have c36b0 : (t398 == t400) = false := beq_eq_false_iff_ne.mpr c36
              have c36b1 : (t398 != t400) = true := bne_iff_ne.mpr c36
              have H' := Aside0.mk H
              clear H
              obtain ⟨Ao73, co73, eo73⟩ := Kd.R_slice HO393.out
              subst eo73
              obtain ⟨Ao74, co74, eo74⟩ := Kd.R_slice HO397.out
              subst eo74
              go_wp2_with (first | (go_at_call 34; (with_reducible refine (laws_f6ints.calls k _ _ t390 _ _ t394 true _ ?side1 ?side2 ?side3 ?side4 A33.out).mono ?_); (case side1 => repeat (first | exact (Kd.R_reads' HO393.out).2.2 | (with_reducible refine Kd.C_alloc ?_ _) | (with_reducible refine Kd.C_drewN ?_ _) | (with_reducible refine Kd.C_drew ?_))); (case side2 => exact (Kd.R_reads' HO393.out).2.1); (case side3 => repeat (first | exact (Kd.R_reads' HO397.out).2.2 | (with_reducible refine Kd.C_alloc ?_ _) | (with_reducible refine Kd.C_drewN ?_ _) | (with_reducible refine Kd.C_drew ?_))); (case side4 => exact (Kd.R_reads' HO397.out).2.1); rintro e w' ⟨rfl, ⟨nd, rfl⟩⟩))
              go_meet
              case rel => exact ⟨_, (true), (by first | rfl | (simp; done) | (simp [*]; done)), H', ⟨by first | omega | exact Nat.le_refl _⟩, ⟨by (with_reducible repeat (first | apply Kd.R_alloc | apply Kd.R_drewN | apply Kd.R_drew)); exact Kd.R_mono HO389.out (fun _ hk => ⟨hk.1.1.1.1.2, ⟨hk.1.1.1.2, hk.2⟩⟩)⟩, ⟨by (with_reducible repeat (first | apply Kd.R_alloc | apply Kd.R_drewN | apply Kd.R_drew)); exact Kd.R_mono HO397.out (fun _ hk => ⟨hk.1.1.1.1.1.2, ⟨hk.1.1.1.2, hk.2⟩⟩)⟩, ⟨by (with_reducible repeat (first | apply Kd.R_alloc | apply Kd.R_drewN | apply Kd.R_drew)); exact Kd.R_mono HO409.out (fun _ hk => ⟨hk.1.1.1.1.1.2, ⟨hk.1.1.1.2, hk.2⟩⟩)⟩, ⟨by (with_reducible repeat (first | apply Kd.R_alloc | apply Kd.R_drewN | apply Kd.R_drew)); exact Kd.R_mono HO431.out (fun _ hk => ⟨hk.1.1.1.1.1.2, ⟨hk.1.1.1.2, hk.1.1.2⟩⟩)⟩, ⟨by repeat (first | (with_reducible first | exact HB.out | apply below_alloc | apply pw_below_drewN | apply below_drew1) | exact HB.out)⟩⟩
          · as_aux_lemma =>
            rw [if_neg c35] at H
            have c35b0 : (t399 == t401) = false := beq_eq_false_iff_ne.mpr c35
            have c35b1 : (t399 != t401) = true := bne_iff_ne.mpr c35
            have H' := Aside0.mk H
            clear H
            obtain ⟨Ao75, co75, eo75⟩ := Kd.R_slice HO393.out
            subst eo75
            obtain ⟨Ao76, co76, eo76⟩ := Kd.R_slice HO397.out
            subst eo76
            go_wp2_with (first | (go_at_call 34; (with_reducible refine (laws_f6ints.calls k _ _ t390 _ _ t394 true _ ?side1 ?side2 ?side3 ?side4 A33.out).mono ?_); (case side1 => repeat (first | exact (Kd.R_reads' HO393.out).2.2 | (with_reducible refine Kd.C_alloc ?_ _) | (with_reducible refine Kd.C_drewN ?_ _) | (with_reducible refine Kd.C_drew ?_))); (case side2 => exact (Kd.R_reads' HO393.out).2.1); (case side3 => repeat (first | exact (Kd.R_reads' HO397.out).2.2 | (with_reducible refine Kd.C_alloc ?_ _) | (with_reducible refine Kd.C_drewN ?_ _) | (with_reducible refine Kd.C_drew ?_))); (case side4 => exact (Kd.R_reads' HO397.out).2.1); rintro e w' ⟨rfl, ⟨nd, rfl⟩⟩))
            go_meet
            case rel => exact ⟨_, (true), (by first | rfl | (simp; done) | (simp [*]; done)), H', ⟨by first | omega | exact Nat.le_refl _⟩, ⟨by (with_reducible repeat (first | apply Kd.R_alloc | apply Kd.R_drewN | apply Kd.R_drew)); exact Kd.R_mono HO389.out (fun _ hk => ⟨hk.1.1.1.1.2, ⟨hk.1.1.1.2, hk.2⟩⟩)⟩, ⟨by (with_reducible repeat (first | apply Kd.R_alloc | apply Kd.R_drewN | apply Kd.R_drew)); exact Kd.R_mono HO397.out (fun _ hk => ⟨hk.1.1.1.1.1.2, ⟨hk.1.1.1.2, hk.2⟩⟩)⟩, ⟨by (with_reducible repeat (first | apply Kd.R_alloc | apply Kd.R_drewN | apply Kd.R_drew)); exact Kd.R_mono HO409.out (fun _ hk => ⟨hk.1.1.1.1.1.2, ⟨hk.1.1.1.2, hk.2⟩⟩)⟩, ⟨by (with_reducible repeat (first | apply Kd.R_alloc | apply Kd.R_drewN | apply Kd.R_drew)); exact Kd.R_mono HO431.out (fun _ hk => ⟨hk.1.1.1.1.1.2, ⟨hk.1.1.1.2, hk.1.1.2⟩⟩)⟩, ⟨by repeat (first | (with_reducible first | exact HB.out | apply below_alloc | apply pw_below_drewN | apply below_drew1) | exact HB.out)⟩⟩
        · as_aux_lemma =>
          replace c34 := Bool.eq_false_iff.mpr c34
          subst c34
          have H1 : (laws_FnPasting.j0 k t385 t386 t387 t391 t394 t400 t402 t403 t404 t405 t407 t411 t422 t423 t425 t428 true) = some r := by rw [if_neg (show ¬ (false = true) by decide)] at H; exact H
          clear H
          have H := H1
          clear H1
          have H' := Aside0.mk H
          clear H
          obtain ⟨Ao77, co77, eo77⟩ := Kd.R_slice HO393.out
          subst eo77
          obtain ⟨Ao78, co78, eo78⟩ := Kd.R_slice HO397.out
          subst eo78
          go_wp2_with (first | (go_at_call 34; (with_reducible refine (laws_f6ints.calls k _ _ t390 _ _ t394 false _ ?side1 ?side2 ?side3 ?side4 A33.out).mono ?_); (case side1 => repeat (first | exact (Kd.R_reads' HO393.out).2.2 | (with_reducible refine Kd.C_alloc ?_ _) | (with_reducible refine Kd.C_drewN ?_ _) | (with_reducible refine Kd.C_drew ?_))); (case side2 => exact (Kd.R_reads' HO393.out).2.1); (case side3 => repeat (first | exact (Kd.R_reads' HO397.out).2.2 | (with_reducible refine Kd.C_alloc ?_ _) | (with_reducible refine Kd.C_drewN ?_ _) | (with_reducible refine Kd.C_drew ?_))); (case side4 => exact (Kd.R_reads' HO397.out).2.1); rintro e w' ⟨rfl, ⟨nd, rfl⟩⟩))
          go_meet
          case rel => exact ⟨_, (true), (by first | rfl | (simp; done) | (simp [*]; done)), H', ⟨by first | omega | exact Nat.le_refl _⟩, ⟨by (with_reducible repeat (first | apply Kd.R_alloc | apply Kd.R_drewN | apply Kd.R_drew)); exact Kd.R_mono HO389.out (fun _ hk => ⟨hk.1.1.1.1.2, ⟨hk.1.1.1.2, hk.2⟩⟩)⟩, ⟨by (with_reducible repeat (first | apply Kd.R_alloc | apply Kd.R_drewN | apply Kd.R_drew)); exact Kd.R_mono HO397.out (fun _ hk => ⟨hk.1.1.1.1.1.2, ⟨hk.1.1.1.2, hk.2⟩⟩)⟩, ⟨by (with_reducible repeat (first | apply Kd.R_alloc | apply Kd.R_drewN | apply Kd.R_drew)); exact Kd.R_mono HO409.out (fun _ hk => ⟨hk.1.1.1.1.1.2, ⟨hk.1.1.1.2, hk.2⟩⟩)⟩, ⟨by (with_reducible repeat (first | apply Kd.R_alloc | apply Kd.R_drewN | apply Kd.R_drew)); exact Kd.R_mono HO431.out (fun _ hk => ⟨hk.1.1.1.1.1.2, ⟨hk.1.1.1.2, hk.1.1.2⟩⟩)⟩, ⟨by repeat (first | (with_reducible first | exact HB.out | apply below_alloc | apply pw_below_drewN | apply below_drew1) | exact HB.out)⟩⟩
      · as_aux_lemma =>
        rw [if_neg c32] at H
        have c32b0 : (t391 == t395) = false := beq_eq_false_iff_ne.mpr c32
        have c32b1 : (t391 != t395) = true := bne_iff_ne.mpr c32
        (first | rw [c32b0] | (simp only [i64_w, i32_w]; rw [c32b0]) | skip)
        have H' := Aside0.mk H
        clear H
        go_wp2
        go_meet
        case rel => exact ⟨_, (true), (by first | rfl | (simp; done) | (simp [*]; done)), H', ⟨by first | omega | exact Nat.le_refl _⟩, ⟨by (with_reducible repeat (first | apply Kd.R_alloc | apply Kd.R_drewN | apply Kd.R_drew)); exact Kd.R_mono HO389.out (fun _ hk => ⟨hk.1.1.1.1.2, ⟨hk.1.1.1.2, hk.2⟩⟩)⟩, ⟨by (with_reducible repeat (first | apply Kd.R_alloc | apply Kd.R_drewN | apply Kd.R_drew)); exact Kd.R_mono HO397.out (fun _ hk => ⟨hk.1.1.1.1.1.2, ⟨hk.1.1.1.2, hk.2⟩⟩)⟩, ⟨by (with_reducible repeat (first | apply Kd.R_alloc | apply Kd.R_drewN | apply Kd.R_drew)); exact Kd.R_mono HO409.out (fun _ hk => ⟨hk.1.1.1.1.1.2, ⟨hk.1.1.1.2, hk.2⟩⟩)⟩, ⟨by (with_reducible repeat (first | apply Kd.R_alloc | apply Kd.R_drewN | apply Kd.R_drew)); exact Kd.R_mono HO431.out (fun _ hk => ⟨hk.1.1.1.1.1.2, ⟨hk.1.1.1.2, hk.1.1.2⟩⟩)⟩, ⟨by repeat (first | (with_reducible first | exact HB.out | apply below_alloc | apply pw_below_drewN | apply below_drew1) | exact HB.out)⟩⟩
    case rest => as_aux_lemma =>
      clear HC18
      try clear c1
      try clear c2
      try clear p2
      try clear c3
      try clear c4
      try clear c10
      try clear c11
      try clear c12
      try clear c13
      try clear c14
      try clear c18
      try clear c19
      try clear c25
      try clear c26
      try clear c27
      try clear c28
      try clear c29
      try clear c30
      try clear c31
      try clear c32
      try clear c32b0
      try clear c32b1
      try clear c33
      try clear c34
      try clear c35
      try clear c35b0
      try clear c35b1
      try clear c36
      try clear c36b0
      try clear c36b1
      try clear c37
      try clear c37b0
      try clear c37b1
      try clear c39
      try clear c40
      try clear c40b0
      try clear c40b1
      try clear c41
      try clear c41b0
      try clear c41b1
      try clear c42
      try clear c42b0
      try clear c42b1
      try clear c43
      try clear c43b0
      try clear c43b1
      obtain ⟨kq, x192_17, rfl, HA, HJ17, HO_3, HO_8, HO_17, HO_34, HB⟩ := hcut
      cases kq with
      | zero => exact absurd HA.out (by simp [laws_FnPasting.j0])
      | succ kj17 =>
        have H := HA.out
        clear HA
        simp only [laws_FnPasting.j0] at H
        by_cases c79 : x192_17 = true
        · as_aux_lemma =>
          subst c79
          have H1 : (some false) = some r := by rw [if_pos rfl] at H; exact H
          clear H
          have H := H1
          clear H1
          obtain rfl := Option.some.inj H
          go_wp2
          go_ret
          exact ⟨by first | rfl | (simp [errW_none, errW_some] <;> rfl) | (simp [*, errW_none, errW_some] <;> rfl), by repeat (first | (with_reducible first | exact HB.out | apply below_alloc | apply pw_below_drewN | apply below_drew1) | exact HB.out)⟩
        · as_aux_lemma =>
          replace c79 := Bool.eq_false_iff.mpr c79
          subst c79
          have H1 : (if t425 = 0 then ((laws_f6sum.f kj17 t428).bind fun t435 => (if t435 = t422 then (laws_FnPasting.j1 kj17 t385 t386 t387 t391 t394 t400 t402 t403 t404 t405 t407 t411 ((t428.length : Int) != t423)) else (laws_FnPasting.j1 kj17 t385 t386 t387 t391 t394 t400 t402 t403 t404 t405 t407 t411 true))) else (laws_FnPasting.j1 kj17 t385 t386 t387 t391 t394 t400 t402 t403 t404 t405 t407 t411 false)) = some r := by rw [if_neg (show ¬ (false = true) by decide)] at H; exact H
          clear H
          have H := H1
          clear H1
          have HC80 := Aside0.mk H
          clear H
          go_upto_region 19 with (fail)
          go_cut [206] (fun v206 wc => ∃ (kq : Nat) (x206_79 : Bool), v206 = .bool x206_79 ∧ Aside0 (laws_FnPasting.j1 kq t385 t386 t387 t391 t394 t400 t402 t403 t404 t405 t407 t411 x206_79 = some r) ∧ Aside0 (kq ≤ kj17) ∧ Aside0 (Kd.R (Kd.int .i64) 2 wc w.heap.size (fun k_ => some k_ ≠ (v396 : Value).ownBlock ∧ some k_ ≠ (v408 : Value).ownBlock) (.slice Ao20 t385.length co20) t385) ∧ Aside0 (Kd.R (Kd.int .i64) 2 wc w.heap.size (fun k_ => some k_ ≠ ((.slice Ao20 t385.length co20) : Value).ownBlock ∧ some k_ ≠ (v408 : Value).ownBlock) v396 t394) ∧ Aside0 (Kd.R (Kd.int .i64) 2 wc w.heap.size (fun k_ => some k_ ≠ ((.slice Ao20 t385.length co20) : Value).ownBlock ∧ some k_ ≠ (v396 : Value).ownBlock) v408 t405) ∧ Aside0 (Below w.heap.size w wc))
          case first => as_aux_lemma =>
            have H := HC80.out
            clear HC80
            by_cases c81 : t425 = 0
            · as_aux_lemma =>
              rw [if_pos c81] at H
              have c81b0 : (t425 == 0) = true := beq_iff_eq.mpr c81
              have c81b1 : (t425 != 0) = false := bne_eq_false_iff_eq.mpr c81
              clear c81
              (first | rw [c81b0] | (simp only [i64_w, i32_w]; rw [c81b0]) | skip)
              replace H := Option.bind_eq_some_iff.mp H
              obtain ⟨t435, A820, H⟩ := H
              replace H : (if t435 = t422 then (laws_FnPasting.j1 kj17 t385 t386 t387 t391 t394 t400 t402 t403 t404 t405 t407 t411 ((t428.length : Int) != t423)) else (laws_FnPasting.j1 kj17 t385 t386 t387 t391 t394 t400 t402 t403 t404 t405 t407 t411 true)) = some r := H
              have A82 := Aside0.mk A820
              clear A820
              by_cases c83 : t435 = t422
              · as_aux_lemma =>
                rw [if_pos c83] at H
                have c83b0 : (t435 == t422) = true := beq_iff_eq.mpr c83
                have c83b1 : (t435 != t422) = false := bne_eq_false_iff_eq.mpr c83
                clear c83
                have H' := Aside0.mk H
                clear H
                obtain ⟨Ao84, co84, eo84⟩ := Kd.R_slice HO_34.out
                subst eo84
                go_wp2_with (first | (go_at_call 35; (with_reducible refine (laws_f6sum.calls kj17 _ _ t428 t435 _ ?side1 ?side2 A82.out).mono ?_); (case side1 => repeat (first | exact (Kd.R_reads' HO_34.out).2.2 | (with_reducible refine Kd.C_alloc ?_ _) | (with_reducible refine Kd.C_drewN ?_ _) | (with_reducible refine Kd.C_drew ?_))); (case side2 => exact (Kd.R_reads' HO_34.out).2.1); rintro e w' ⟨rfl, ⟨nd, rfl⟩⟩))
                go_meet
                case rel => exact ⟨_, (((t428.length : Int) != t423)), (by first | rfl | (simp; done) | (simp [*]; done)), H', ⟨by have := HJ17.out; first | omega | exact Nat.le_refl _⟩, ⟨by (with_reducible repeat (first | apply Kd.R_alloc | apply Kd.R_drewN | apply Kd.R_drew)); exact Kd.R_mono HO_3.out (fun _ hk => ⟨hk.1, hk.2.1⟩)⟩, ⟨by (with_reducible repeat (first | apply Kd.R_alloc | apply Kd.R_drewN | apply Kd.R_drew)); exact Kd.R_mono HO_8.out (fun _ hk => ⟨hk.1, hk.2.1⟩)⟩, ⟨by (with_reducible repeat (first | apply Kd.R_alloc | apply Kd.R_drewN | apply Kd.R_drew)); exact Kd.R_mono HO_17.out (fun _ hk => ⟨hk.1, hk.2.1⟩)⟩, ⟨by repeat (first | (with_reducible first | exact HB.out | apply below_alloc | apply pw_below_drewN | apply below_drew1) | exact HB.out)⟩⟩
              · as_aux_lemma =>
                rw [if_neg c83] at H
                have c83b0 : (t435 == t422) = false := beq_eq_false_iff_ne.mpr c83
                have c83b1 : (t435 != t422) = true := bne_iff_ne.mpr c83
                have H' := Aside0.mk H
                clear H
                obtain ⟨Ao85, co85, eo85⟩ := Kd.R_slice HO_34.out
                subst eo85
                go_wp2_with (first | (go_at_call 35; (with_reducible refine (laws_f6sum.calls kj17 _ _ t428 t435 _ ?side1 ?side2 A82.out).mono ?_); (case side1 => repeat (first | exact (Kd.R_reads' HO_34.out).2.2 | (with_reducible refine Kd.C_alloc ?_ _) | (with_reducible refine Kd.C_drewN ?_ _) | (with_reducible refine Kd.C_drew ?_))); (case side2 => exact (Kd.R_reads' HO_34.out).2.1); rintro e w' ⟨rfl, ⟨nd, rfl⟩⟩))
                go_meet
                case rel => exact ⟨_, (true), (by first | rfl | (simp; done) | (simp [*]; done)), H', ⟨by have := HJ17.out; first | omega | exact Nat.le_refl _⟩, ⟨by (with_reducible repeat (first | apply Kd.R_alloc | apply Kd.R_drewN | apply Kd.R_drew)); exact Kd.R_mono HO_3.out (fun _ hk => ⟨hk.1, hk.2.1⟩)⟩, ⟨by (with_reducible repeat (first | apply Kd.R_alloc | apply Kd.R_drewN | apply Kd.R_drew)); exact Kd.R_mono HO_8.out (fun _ hk => ⟨hk.1, hk.2.1⟩)⟩, ⟨by (with_reducible repeat (first | apply Kd.R_alloc | apply Kd.R_drewN | apply Kd.R_drew)); exact Kd.R_mono HO_17.out (fun _ hk => ⟨hk.1, hk.2.1⟩)⟩, ⟨by repeat (first | (with_reducible first | exact HB.out | apply below_alloc | apply pw_below_drewN | apply below_drew1) | exact HB.out)⟩⟩
            · as_aux_lemma =>
              rw [if_neg c81] at H
              have c81b0 : (t425 == 0) = false := beq_eq_false_iff_ne.mpr c81
              have c81b1 : (t425 != 0) = true := bne_iff_ne.mpr c81
              (first | rw [c81b0] | (simp only [i64_w, i32_w]; rw [c81b0]) | skip)
              have H' := Aside0.mk H
              clear H
              go_wp2
              go_meet
              case rel => exact ⟨_, (false), (by first | rfl | (simp; done) | (simp [*]; done)), H', ⟨by have := HJ17.out; first | omega | exact Nat.le_refl _⟩, ⟨by (with_reducible repeat (first | apply Kd.R_alloc | apply Kd.R_drewN | apply Kd.R_drew)); exact Kd.R_mono HO_3.out (fun _ hk => ⟨hk.1, hk.2.1⟩)⟩, ⟨by (with_reducible repeat (first | apply Kd.R_alloc | apply Kd.R_drewN | apply Kd.R_drew)); exact Kd.R_mono HO_8.out (fun _ hk => ⟨hk.1, hk.2.1⟩)⟩, ⟨by (with_reducible repeat (first | apply Kd.R_alloc | apply Kd.R_drewN | apply Kd.R_drew)); exact Kd.R_mono HO_17.out (fun _ hk => ⟨hk.1, hk.2.1⟩)⟩, ⟨by repeat (first | (with_reducible first | exact HB.out | apply below_alloc | apply pw_below_drewN | apply below_drew1) | exact HB.out)⟩⟩
          case rest => as_aux_lemma =>
            clear HC80
            try clear c1
            try clear c2
            try clear p2
            try clear c3
            try clear c4
            try clear c7
            try clear c8
            try clear c10
            try clear c11
            try clear c12
            try clear c13
            try clear c14
            try clear c18
            try clear c19
            try clear c25
            try clear c26
            try clear c27
            try clear c28
            try clear c29
            try clear c30
            try clear c31
            try clear c32
            try clear c32b0
            try clear c32b1
            try clear c33
            try clear c34
            try clear c35
            try clear c35b0
            try clear c35b1
            try clear c36
            try clear c36b0
            try clear c36b1
            try clear c37
            try clear c37b0
            try clear c37b1
            try clear c39
            try clear c40
            try clear c40b0
            try clear c40b1
            try clear c41
            try clear c41b0
            try clear c41b1
            try clear c42
            try clear c42b0
            try clear c42b1
            try clear c43
            try clear c43b0
            try clear c43b1
            try clear c79
            try clear c81
            try clear c81b0
            try clear c81b1
            try clear c83
            try clear c83b0
            try clear c83b1
            try clear p2
            obtain ⟨kq, x206_79, rfl, HA, HJ79, HO_3, HO_8, HO_17, HB⟩ := hcut
            cases kq with
            | zero => exact absurd HA.out (by simp [laws_FnPasting.j1])
            | succ kj79 =>
              have H := HA.out
              clear HA
              simp only [laws_FnPasting.j1] at H
              by_cases c86 : x206_79 = true
              · as_aux_lemma =>
                subst c86
                have H1 : (some false) = some r := by rw [if_pos rfl] at H; exact H
                clear H
                have H := H1
                clear H1
                obtain rfl := Option.some.inj H
                go_wp2
                go_ret
                exact ⟨by first | rfl | (simp [errW_none, errW_some] <;> rfl) | (simp [*, errW_none, errW_some] <;> rfl), by repeat (first | (with_reducible first | exact HB.out | apply below_alloc | apply pw_below_drewN | apply below_drew1) | exact HB.out)⟩
              · as_aux_lemma =>
                replace c86 := Bool.eq_false_iff.mpr c86
                subst c86
                have H1 : (if t407 = 0 then ((impl_EndOfPasting.f kj79 t405 t403 t404).bind fun bt436 => (if bt436.2 = 0 then (laws_FnPasting.j2 kj79 t385 t386 t387 t391 t394 t400 t402 t403 t404 t411 (bt436.1 != t411)) else (laws_FnPasting.j2 kj79 t385 t386 t387 t391 t394 t400 t402 t403 t404 t411 true))) else (laws_FnPasting.j3 kj79 t385 t386 t387 t391 t394 t400)) = some r := by rw [if_neg (show ¬ (false = true) by decide)] at H; exact H
                clear H
                have H := H1
                clear H1
                have HC87 := Aside0.mk H
                clear H
                go_upto_if 208 with (fail)
                go_cut [] (fun wc => ∃ (kq : Nat), Aside0 (laws_FnPasting.j3 kq t385 t386 t387 t391 t394 t400 = some r) ∧ Aside0 (kq ≤ kj79) ∧ Aside0 (Kd.R (Kd.int .i64) 2 wc w.heap.size (fun k_ => some k_ ≠ (v396 : Value).ownBlock) (.slice Ao20 t385.length co20) t385) ∧ Aside0 (Kd.R (Kd.int .i64) 2 wc w.heap.size (fun k_ => some k_ ≠ ((.slice Ao20 t385.length co20) : Value).ownBlock) v396 t394) ∧ Aside0 (Below w.heap.size w wc))
                case first => as_aux_lemma =>
                  have H := HC87.out
                  clear HC87
                  by_cases c88 : t407 = 0
                  · as_aux_lemma =>
                    rw [if_pos c88] at H
                    have c88b0 : (t407 == 0) = true := beq_iff_eq.mpr c88
                    have c88b1 : (t407 != 0) = false := bne_eq_false_iff_eq.mpr c88
                    clear c88
                    (first | rw [c88b0] | (simp only [i64_w, i32_w]; rw [c88b0]) | skip)
                    replace H := Option.bind_eq_some_iff.mp H
                    obtain ⟨⟨t436, t437⟩, A890, H⟩ := H
                    replace H : (if t437 = 0 then (laws_FnPasting.j2 kj79 t385 t386 t387 t391 t394 t400 t402 t403 t404 t411 (t436 != t411)) else (laws_FnPasting.j2 kj79 t385 t386 t387 t391 t394 t400 t402 t403 t404 t411 true)) = some r := H
                    have A89 := Aside0.mk A890
                    clear A890
                    have HC90 := Aside0.mk H
                    clear H
                    obtain ⟨Ao91, co91, eo91⟩ := Kd.R_slice HO_17.out
                    subst eo91
                    go_upto_region 23 with (first | ((with_reducible refine gate_callee (f := 28) rfl ?_); refine goesL_ (some 213) rfl rfl Try.func28 (by kernel_rfl) rfl #[.slice Ao91 t405.length co91, .int .i64 t403, .int .i64 t404] rfl (by (try simp only [List.map_toArray, List.map_cons, List.map_nil]); first | done | rfl | (simp only [List.length_drop, List.length_take]; rfl)) ?_; (with_reducible refine (impl_EndOfPasting.calls kj79 _ _ t405 t403 t404 t436 t437 _ ?side1 ?side2 A89.out).mono ?_); (case side1 => repeat (first | exact (Kd.R_reads' HO_17.out).2.2 | (with_reducible refine Kd.C_alloc ?_ _) | (with_reducible refine Kd.C_drewN ?_ _) | (with_reducible refine Kd.C_drew ?_))); (case side2 => exact (Kd.R_reads' HO_17.out).2.1); rintro e w92 ⟨rfl, hb⟩; refine ⟨_, rfl, ?_⟩; have n0_ := Aside0.mk (Kd.R_below (by (with_reducible repeat (first | apply Kd.R_alloc | apply Kd.R_drewN | apply Kd.R_drew)); exact HO_3.out) hb); have n1_ := Aside0.mk (Kd.R_below (by (with_reducible repeat (first | apply Kd.R_alloc | apply Kd.R_drewN | apply Kd.R_drew)); exact HO_8.out) hb); have n2_ := Aside0.mk (Kd.R_below (by (with_reducible repeat (first | apply Kd.R_alloc | apply Kd.R_drewN | apply Kd.R_drew)); exact HO_17.out) hb); have n3_ := Aside0.mk (below_step (by repeat (first | (with_reducible first | exact HB.out | apply below_alloc | apply pw_below_drewN | apply below_drew1) | exact HB.out)) hb); clear HO_3; clear HO_8; clear HO_17; clear HB; have HO_3 := n0_; have HO_8 := n1_; have HO_17 := n2_; have HB := n3_; clear n0_ n1_ n2_ n3_; (try clear hb); (try clear hb2); (try clear hk); (try clear hi)))
                    (try simp only [Act.put, List.setIfInBounds_toArray, List.set_cons_zero, List.set_cons_succ])
                    go_cut [222] (fun v222 wc => ∃ (kq : Nat) (x222_89 : Bool), v222 = .bool x222_89 ∧ Aside0 (laws_FnPasting.j2 kq t385 t386 t387 t391 t394 t400 t402 t403 t404 t411 x222_89 = some r) ∧ Aside0 (kq ≤ kj79) ∧ Aside0 (Kd.R (Kd.int .i64) 2 wc w.heap.size (fun k_ => some k_ ≠ (v396 : Value).ownBlock) (.slice Ao20 t385.length co20) t385) ∧ Aside0 (Kd.R (Kd.int .i64) 2 wc w.heap.size (fun k_ => some k_ ≠ ((.slice Ao20 t385.length co20) : Value).ownBlock) v396 t394) ∧ Aside0 (Below w.heap.size w wc))
                    case first => as_aux_lemma =>
                      have H := HC90.out
                      clear HC90
                      by_cases c93 : t437 = 0
                      · as_aux_lemma =>
                        rw [if_pos c93] at H
                        have c93b0 : (t437 == 0) = true := beq_iff_eq.mpr c93
                        have c93b1 : (t437 != 0) = false := bne_eq_false_iff_eq.mpr c93
                        clear c93
                        (first | rw [c93b0] | (simp only [i64_w, i32_w]; rw [c93b0]) | skip)
                        have H' := Aside0.mk H
                        clear H
                        go_wp2
                        go_meet
                        case rel => exact ⟨_, ((t436 != t411)), (by first | rfl | (simp; done) | (simp [*]; done)), H', ⟨by have := HJ17.out; have := HJ79.out; first | omega | exact Nat.le_refl _⟩, ⟨by (with_reducible repeat (first | apply Kd.R_alloc | apply Kd.R_drewN | apply Kd.R_drew)); exact Kd.R_mono HO_3.out (fun _ hk => hk.1)⟩, ⟨by (with_reducible repeat (first | apply Kd.R_alloc | apply Kd.R_drewN | apply Kd.R_drew)); exact Kd.R_mono HO_8.out (fun _ hk => hk.1)⟩, ⟨by repeat (first | (with_reducible first | exact HB.out | apply below_alloc | apply pw_below_drewN | apply below_drew1) | exact HB.out)⟩⟩
                      · as_aux_lemma =>
                        rw [if_neg c93] at H
                        have c93b0 : (t437 == 0) = false := beq_eq_false_iff_ne.mpr c93
                        have c93b1 : (t437 != 0) = true := bne_iff_ne.mpr c93
                        (first | rw [c93b0] | (simp only [i64_w, i32_w]; rw [c93b0]) | skip)
                        have H' := Aside0.mk H
                        clear H
                        go_wp2
                        go_meet
                        case rel => exact ⟨_, (true), (by first | rfl | (simp; done) | (simp [*]; done)), H', ⟨by have := HJ17.out; have := HJ79.out; first | omega | exact Nat.le_refl _⟩, ⟨by (with_reducible repeat (first | apply Kd.R_alloc | apply Kd.R_drewN | apply Kd.R_drew)); exact Kd.R_mono HO_3.out (fun _ hk => hk.1)⟩, ⟨by (with_reducible repeat (first | apply Kd.R_alloc | apply Kd.R_drewN | apply Kd.R_drew)); exact Kd.R_mono HO_8.out (fun _ hk => hk.1)⟩, ⟨by repeat (first | (with_reducible first | exact HB.out | apply below_alloc | apply pw_below_drewN | apply below_drew1) | exact HB.out)⟩⟩
                    case rest => as_aux_lemma =>
                      clear HC90
                      try clear c1
                      try clear c2
                      try clear p2
                      try clear c3
                      try clear c4
                      try clear c7
                      try clear c8
                      try clear c9
                      try clear c10
                      try clear c11
                      try clear c12
                      try clear c13
                      try clear c14
                      try clear c18
                      try clear c19
                      try clear c25
                      try clear c26
                      try clear c27
                      try clear c28
                      try clear c29
                      try clear c30
                      try clear c31
                      try clear c32
                      try clear c32b0
                      try clear c32b1
                      try clear c33
                      try clear c34
                      try clear c35
                      try clear c35b0
                      try clear c35b1
                      try clear c36
                      try clear c36b0
                      try clear c36b1
                      try clear c37
                      try clear c37b0
                      try clear c37b1
                      try clear c39
                      try clear c40
                      try clear c40b0
                      try clear c40b1
                      try clear c41
                      try clear c41b0
                      try clear c41b1
                      try clear c42
                      try clear c42b0
                      try clear c42b1
                      try clear c43
                      try clear c43b0
                      try clear c43b1
                      try clear c79
                      try clear c81
                      try clear c81b0
                      try clear c81b1
                      try clear c83
                      try clear c83b0
                      try clear c83b1
                      try clear c86
                      try clear c88
                      try clear c88b0
                      try clear c88b1
                      try clear c93
                      try clear c93b0
                      try clear c93b1
                      try clear p2
                      obtain ⟨kq, x222_89, rfl, HA, HJ89, HO_3, HO_8, HB⟩ := hcut
                      cases kq with
                      | zero => exact absurd HA.out (by simp [laws_FnPasting.j2])
                      | succ kj89 =>
                        have H := HA.out
                        clear HA
                        simp only [laws_FnPasting.j2] at H
                        by_cases c94 : x222_89 = true
                        · as_aux_lemma =>
                          subst c94
                          have H1 : (some false) = some r := by rw [if_pos rfl] at H; exact H
                          clear H
                          have H := H1
                          clear H1
                          obtain rfl := Option.some.inj H
                          go_wp2
                          go_ret
                          exact ⟨by first | rfl | (simp [errW_none, errW_some] <;> rfl) | (simp [*, errW_none, errW_some] <;> rfl), by repeat (first | (with_reducible first | exact HB.out | apply below_alloc | apply pw_below_drewN | apply below_drew1) | exact HB.out)⟩
                        · as_aux_lemma =>
                          replace c94 := Bool.eq_false_iff.mpr c94
                          subst c94
                          have H1 : (if t391 = 0 then (if (t385.length : Int) = t402 then (if t386 = t403 then (if t387 = t404 then (if t400 < t411 then (some false) else (laws_FnPasting.j3 kj89 t385 t386 t387 t391 t394 t400)) else (laws_FnPasting.j3 kj89 t385 t386 t387 t391 t394 t400)) else (laws_FnPasting.j3 kj89 t385 t386 t387 t391 t394 t400)) else (laws_FnPasting.j3 kj89 t385 t386 t387 t391 t394 t400)) else (laws_FnPasting.j3 kj89 t385 t386 t387 t391 t394 t400)) = some r := by rw [if_neg (show ¬ (false = true) by decide)] at H; exact H
                          clear H
                          have H := H1
                          clear H1
                          by_cases c95 : t391 = 0
                          · as_aux_lemma =>
                            rw [if_pos c95] at H
                            have c95b0 : (t391 == 0) = true := beq_iff_eq.mpr c95
                            have c95b1 : (t391 != 0) = false := bne_eq_false_iff_eq.mpr c95
                            clear c95
                            by_cases c96 : (t385.length : Int) = t402
                            · as_aux_lemma =>
                              rw [if_pos c96] at H
                              have c96b0 : ((t385.length : Int) == t402) = true := beq_iff_eq.mpr c96
                              have c96b1 : ((t385.length : Int) != t402) = false := bne_eq_false_iff_eq.mpr c96
                              clear c96
                              by_cases c97 : t386 = t403
                              · as_aux_lemma =>
                                rw [if_pos c97] at H
                                have c97b0 : (t386 == t403) = true := beq_iff_eq.mpr c97
                                have c97b1 : (t386 != t403) = false := bne_eq_false_iff_eq.mpr c97
                                clear c97
                                by_cases c98 : t387 = t404
                                · as_aux_lemma =>
                                  rw [if_pos c98] at H
                                  have c98b0 : (t387 == t404) = true := beq_iff_eq.mpr c98
                                  have c98b1 : (t387 != t404) = false := bne_eq_false_iff_eq.mpr c98
                                  clear c98
                                  by_cases c99 : t400 < t411
                                  · as_aux_lemma =>
                                    rw [if_pos c99] at H
                                    have c99b0 : decide (t400 < t411) = true := decide_eq_true c99
                                    clear c99
                                    obtain rfl := Option.some.inj H
                                    go_wp2
                                    go_ret
                                    exact ⟨by first | rfl | (simp [errW_none, errW_some] <;> rfl) | (simp [*, errW_none, errW_some] <;> rfl), by repeat (first | (with_reducible first | exact HB.out | apply below_alloc | apply pw_below_drewN | apply below_drew1) | exact HB.out)⟩
                                  · as_aux_lemma =>
                                    rw [if_neg c99] at H
                                    have c99b0 : decide (t400 < t411) = false := decide_eq_false c99
                                    clear c99
                                    have H' := Aside0.mk H
                                    clear H
                                    go_wp2
                                    go_meet
                                    case rel => exact ⟨_, H', ⟨by have := HJ17.out; have := HJ79.out; have := HJ89.out; first | omega | exact Nat.le_refl _⟩, ⟨by (with_reducible repeat (first | apply Kd.R_alloc | apply Kd.R_drewN | apply Kd.R_drew)); exact HO_3.out⟩, ⟨by (with_reducible repeat (first | apply Kd.R_alloc | apply Kd.R_drewN | apply Kd.R_drew)); exact HO_8.out⟩, ⟨by repeat (first | (with_reducible first | exact HB.out | apply below_alloc | apply pw_below_drewN | apply below_drew1) | exact HB.out)⟩⟩
                                · as_aux_lemma =>
                                  rw [if_neg c98] at H
                                  have c98b0 : (t387 == t404) = false := beq_eq_false_iff_ne.mpr c98
                                  have c98b1 : (t387 != t404) = true := bne_iff_ne.mpr c98
                                  have H' := Aside0.mk H
                                  clear H
                                  go_wp2
                                  go_meet
                                  case rel => exact ⟨_, H', ⟨by have := HJ17.out; have := HJ79.out; have := HJ89.out; first | omega | exact Nat.le_refl _⟩, ⟨by (with_reducible repeat (first | apply Kd.R_alloc | apply Kd.R_drewN | apply Kd.R_drew)); exact HO_3.out⟩, ⟨by (with_reducible repeat (first | apply Kd.R_alloc | apply Kd.R_drewN | apply Kd.R_drew)); exact HO_8.out⟩, ⟨by repeat (first | (with_reducible first | exact HB.out | apply below_alloc | apply pw_below_drewN | apply below_drew1) | exact HB.out)⟩⟩
                              · as_aux_lemma =>
                                rw [if_neg c97] at H
                                have c97b0 : (t386 == t403) = false := beq_eq_false_iff_ne.mpr c97
                                have c97b1 : (t386 != t403) = true := bne_iff_ne.mpr c97
                                have H' := Aside0.mk H
                                clear H
                                go_wp2
                                go_meet
                                case rel => exact ⟨_, H', ⟨by have := HJ17.out; have := HJ79.out; have := HJ89.out; first | omega | exact Nat.le_refl _⟩, ⟨by (with_reducible repeat (first | apply Kd.R_alloc | apply Kd.R_drewN | apply Kd.R_drew)); exact HO_3.out⟩, ⟨by (with_reducible repeat (first | apply Kd.R_alloc | apply Kd.R_drewN | apply Kd.R_drew)); exact HO_8.out⟩, ⟨by repeat (first | (with_reducible first | exact HB.out | apply below_alloc | apply pw_below_drewN | apply below_drew1) | exact HB.out)⟩⟩
                            · as_aux_lemma =>
                              rw [if_neg c96] at H
                              have c96b0 : ((t385.length : Int) == t402) = false := beq_eq_false_iff_ne.mpr c96
                              have c96b1 : ((t385.length : Int) != t402) = true := bne_iff_ne.mpr c96
                              have H' := Aside0.mk H
                              clear H
                              go_wp2
                              go_meet
                              case rel => exact ⟨_, H', ⟨by have := HJ17.out; have := HJ79.out; have := HJ89.out; first | omega | exact Nat.le_refl _⟩, ⟨by (with_reducible repeat (first | apply Kd.R_alloc | apply Kd.R_drewN | apply Kd.R_drew)); exact HO_3.out⟩, ⟨by (with_reducible repeat (first | apply Kd.R_alloc | apply Kd.R_drewN | apply Kd.R_drew)); exact HO_8.out⟩, ⟨by repeat (first | (with_reducible first | exact HB.out | apply below_alloc | apply pw_below_drewN | apply below_drew1) | exact HB.out)⟩⟩
                          · as_aux_lemma =>
                            rw [if_neg c95] at H
                            have c95b0 : (t391 == 0) = false := beq_eq_false_iff_ne.mpr c95
                            have c95b1 : (t391 != 0) = true := bne_iff_ne.mpr c95
                            have H' := Aside0.mk H
                            clear H
                            go_wp2
                            go_meet
                            case rel => exact ⟨_, H', ⟨by have := HJ17.out; have := HJ79.out; have := HJ89.out; first | omega | exact Nat.le_refl _⟩, ⟨by (with_reducible repeat (first | apply Kd.R_alloc | apply Kd.R_drewN | apply Kd.R_drew)); exact HO_3.out⟩, ⟨by (with_reducible repeat (first | apply Kd.R_alloc | apply Kd.R_drewN | apply Kd.R_drew)); exact HO_8.out⟩, ⟨by repeat (first | (with_reducible first | exact HB.out | apply below_alloc | apply pw_below_drewN | apply below_drew1) | exact HB.out)⟩⟩
                  · as_aux_lemma =>
                    rw [if_neg c88] at H
                    have c88b0 : (t407 == 0) = false := beq_eq_false_iff_ne.mpr c88
                    have c88b1 : (t407 != 0) = true := bne_iff_ne.mpr c88
                    (first | rw [c88b0] | (simp only [i64_w, i32_w]; rw [c88b0]) | skip)
                    have H' := Aside0.mk H
                    clear H
                    go_wp2
                    go_meet
                    case rel => exact ⟨_, H', ⟨by have := HJ17.out; have := HJ79.out; first | omega | exact Nat.le_refl _⟩, ⟨by (with_reducible repeat (first | apply Kd.R_alloc | apply Kd.R_drewN | apply Kd.R_drew)); exact Kd.R_mono HO_3.out (fun _ hk => hk.1)⟩, ⟨by (with_reducible repeat (first | apply Kd.R_alloc | apply Kd.R_drewN | apply Kd.R_drew)); exact Kd.R_mono HO_8.out (fun _ hk => hk.1)⟩, ⟨by repeat (first | (with_reducible first | exact HB.out | apply below_alloc | apply pw_below_drewN | apply below_drew1) | exact HB.out)⟩⟩
                case rest => as_aux_lemma =>
                  clear HC87
                  try clear c1
                  try clear c2
                  try clear p2
                  try clear c3
                  try clear c4
                  try clear c7
                  try clear c8
                  try clear c9
                  try clear c10
                  try clear c11
                  try clear c12
                  try clear c13
                  try clear c14
                  try clear c18
                  try clear c19
                  try clear c25
                  try clear c26
                  try clear c27
                  try clear c28
                  try clear c29
                  try clear c30
                  try clear c31
                  try clear c32
                  try clear c32b0
                  try clear c32b1
                  try clear c33
                  try clear c34
                  try clear c35
                  try clear c35b0
                  try clear c35b1
                  try clear c36
                  try clear c36b0
                  try clear c36b1
                  try clear c37
                  try clear c37b0
                  try clear c37b1
                  try clear c39
                  try clear c40
                  try clear c40b0
                  try clear c40b1
                  try clear c41
                  try clear c41b0
                  try clear c41b1
                  try clear c42
                  try clear c42b0
                  try clear c42b1
                  try clear c43
                  try clear c43b0
                  try clear c43b1
                  try clear c79
                  try clear c81
                  try clear c81b0
                  try clear c81b1
                  try clear c83
                  try clear c83b0
                  try clear c83b1
                  try clear c86
                  try clear c88
                  try clear c88b0
                  try clear c88b1
                  try clear c93
                  try clear c93b0
                  try clear c93b1
                  try clear c94
                  try clear c95
                  try clear c95b0
                  try clear c95b1
                  try clear c96
                  try clear c96b0
                  try clear c96b1
                  try clear c97
                  try clear c97b0
                  try clear c97b1
                  try clear c98
                  try clear c98b0
                  try clear c98b1
                  try clear c99
                  try clear c99b0
                  try clear p2
                  obtain ⟨kq, HA, HJ86, HO_3, HO_8, HB⟩ := hcut
                  cases kq with
                  | zero => exact absurd HA.out (by simp [laws_FnPasting.j3])
                  | succ kj86 =>
                    have H := HA.out
                    clear HA
                    simp only [laws_FnPasting.j3] at H
                    by_cases c100 : t391 = 0
                    · as_aux_lemma =>
                      rw [if_pos c100] at H
                      have c100b0 : (t391 == 0) = true := beq_iff_eq.mpr c100
                      have c100b1 : (t391 != 0) = false := bne_eq_false_iff_eq.mpr c100
                      clear c100
                      have H' := Aside0.mk H
                      clear H
                      go_wp2
                      go_loopg [39] kj86 (fun kq v39 w' => ∃ (x39_4 : Int), v39 = .int .i64 x39_4 ∧ Aside0 (laws_FnPasting.l0 kq t386 t387 t394 t400 (t385.length : Int) x39_4 = some r) ∧ Aside0 (kq ≤ kj86) ∧ Aside0 (Kd.R (Kd.int .i64) 2 w' w.heap.size (fun _ => True) v396 t394) ∧ Aside0 (Below w.heap.size w w'))
                      case atStart => exact ⟨(0), (by first | rfl | (simp; done) | (simp [*]; done)), H', ⟨Nat.le_refl _⟩, ⟨by (with_reducible repeat (first | apply Kd.R_alloc | apply Kd.R_drewN | apply Kd.R_drew)); exact Kd.R_mono HO_8.out (fun _ hk => trivial)⟩, ⟨by repeat (first | (with_reducible first | exact HB.out | apply below_alloc | apply pw_below_drewN | apply below_drew1) | exact HB.out)⟩⟩
                      case round => as_aux_lemma =>
                        clear H'
                        try clear c1
                        try clear c2
                        try clear p2
                        try clear c3
                        try clear c4
                        try clear c7
                        try clear c8
                        try clear c9
                        try clear c10
                        try clear c11
                        try clear c12
                        try clear c13
                        try clear c14
                        try clear c18
                        try clear c19
                        try clear c25
                        try clear c26
                        try clear c27
                        try clear c28
                        try clear c29
                        try clear c30
                        try clear c31
                        try clear c32
                        try clear c32b0
                        try clear c32b1
                        try clear c33
                        try clear c34
                        try clear c35
                        try clear c35b0
                        try clear c35b1
                        try clear c36
                        try clear c36b0
                        try clear c36b1
                        try clear c37
                        try clear c37b0
                        try clear c37b1
                        try clear c39
                        try clear c40
                        try clear c40b0
                        try clear c40b1
                        try clear c41
                        try clear c41b0
                        try clear c41b1
                        try clear c42
                        try clear c42b0
                        try clear c42b1
                        try clear c43
                        try clear c43b0
                        try clear c43b1
                        try clear c79
                        try clear c81
                        try clear c81b0
                        try clear c81b1
                        try clear c83
                        try clear c83b0
                        try clear c83b1
                        try clear c86
                        try clear c88
                        try clear c88b0
                        try clear c88b1
                        try clear c93
                        try clear c93b0
                        try clear c93b1
                        try clear c94
                        try clear c95
                        try clear c95b0
                        try clear c95b1
                        try clear c96
                        try clear c96b0
                        try clear c96b1
                        try clear c97
                        try clear c97b0
                        try clear c97b1
                        try clear c98
                        try clear c98b0
                        try clear c98b1
                        try clear c99
                        try clear c99b0
                        try clear c100
                        try clear c100b0
                        try clear c100b1
                        try clear p2
                        obtain ⟨x39_4, rfl, HA, HK4, HO_8, HB⟩ := hrel
                        cases gk with
                        | zero => exact absurd HA.out (by simp [laws_FnPasting.l0])
                        | succ k4 =>
                          have H := HA.out
                          clear HA
                          simp only [laws_FnPasting.l0] at H
                          by_cases c101 : x39_4 < (t385.length : Int)
                          · as_aux_lemma =>
                            rw [if_pos c101] at H
                            have c101b0 : decide (x39_4 < (t385.length : Int)) = true := decide_eq_true c101
                            clear c101
                            by_cases c102 : 0 ≤ x39_4
                            · as_aux_lemma =>
                              rw [if_pos c102] at H
                              have c102b0 : decide (0 ≤ x39_4) = true := decide_eq_true c102
                              clear c102
                              by_cases c103 : x39_4 < (t394.length : Int)
                              · as_aux_lemma =>
                                rw [if_pos c103] at H
                                have c103b0 : decide (x39_4 < (t394.length : Int)) = true := decide_eq_true c103
                                clear c103
                                by_cases c104 : (t385.length : Int) = 0
                                · as_aux_lemma =>
                                  rw [if_pos c104] at H
                                  exact absurd H (by simp)
                                · as_aux_lemma =>
                                  rw [if_neg c104] at H
                                  have c104b0 : ((t385.length : Int) == 0) = false := beq_eq_false_iff_ne.mpr c104
                                  have c104b1 : ((t385.length : Int) != 0) = true := bne_iff_ne.mpr c104
                                  have c104b2 : ¬ (t385 = []) := fun h_ => c104 (by rw [h_]; rfl)
                                  obtain ⟨ji105, hji105⟩ : ∃ j_ : Int, (Int.tmod (wrap64 (x39_4 + 1)) (t385.length : Int)) = j_ := ⟨_, rfl⟩
                                  replace H : (if 0 ≤ (ji105) then (if (ji105) < (t394.length : Int) then (if (t385.length : Int) > 1 then (if (rd t394 x39_4) = (rd t394 (ji105)) then (laws_FnPasting.j5 k4 t386 t387 t394 t400 (t385.length : Int) x39_4 (rd t394 x39_4) false) else ((laws_f6abs.f (wrap64 ((rd t394 x39_4) - (rd t394 (ji105))))).bind fun t440 => (laws_FnPasting.j5 k4 t386 t387 t394 t400 (t385.length : Int) x39_4 (rd t394 x39_4) (decide (t440 < (wrap64 (t386 + t387))))))) else (laws_FnPasting.j5 k4 t386 t387 t394 t400 (t385.length : Int) x39_4 (rd t394 x39_4) false)) else (none)) else (none)) = some r := by first | (rw [hji105] at H; exact H) | (simp only [hji105] at H ⊢; exact H)
                                  by_cases c106 : 0 ≤ (ji105)
                                  · as_aux_lemma =>
                                    rw [if_pos c106] at H
                                    have c106b0 : decide (0 ≤ (ji105)) = true := decide_eq_true c106
                                    clear c106
                                    by_cases c107 : (ji105) < (t394.length : Int)
                                    · as_aux_lemma =>
                                      rw [if_pos c107] at H
                                      have c107b0 : decide ((ji105) < (t394.length : Int)) = true := decide_eq_true c107
                                      clear c107
                                      have HC108 := Aside0.mk H
                                      clear H
                                      obtain ⟨Ao109, co109, eo109⟩ := Kd.R_slice HO_8.out
                                      subst eo109
                                      have p438 : 0 ≤ (x39_4 : Int) := of_decide_eq_true (by first | (with_reducible assumption) | assumption)
                                      have q438 : x39_4 < (t394.length : Int) := of_decide_eq_true (by first | (with_reducible assumption) | assumption)
                                      obtain ⟨ad438, e438, hx438_0⟩ := Kd.at_int (Kd.R_reads' HO_8.out).2.2 x39_4 p438 q438
                                      cases e438
                                      replace p438 := eq_true p438
                                      replace q438 := eq_true q438
                                      have p439 : 0 ≤ ((ji105) : Int) := of_decide_eq_true (by first | (with_reducible assumption) | assumption)
                                      have q439 : (ji105) < (t394.length : Int) := of_decide_eq_true (by first | (with_reducible assumption) | assumption)
                                      obtain ⟨ad439, e439, hx439_0⟩ := Kd.at_int (Kd.R_reads' HO_8.out).2.2 (ji105) p439 q439
                                      obtain rfl : ad438 = ad439 := (by injection e439)
                                      replace p439 := eq_true p439
                                      replace q439 := eq_true q439
                                      go_upto_region 35 with (fail)
                                      go_cut [282] (fun v282 wc => ∃ (kq : Nat) (x282_107 : Bool), v282 = .bool x282_107 ∧ Aside0 (laws_FnPasting.j5 kq t386 t387 t394 t400 (t385.length : Int) x39_4 (rd t394 x39_4) x282_107 = some r) ∧ Aside0 (kq ≤ k4) ∧ Aside0 (Kd.R (Kd.int .i64) 2 wc w.heap.size (fun _ => True) (.slice (some ad438) t394.length co109) t394) ∧ Aside0 (Below w.heap.size w wc))
                                      case first => as_aux_lemma =>
                                        have H := HC108.out
                                        clear HC108
                                        by_cases c110 : (t385.length : Int) > 1
                                        · as_aux_lemma =>
                                          rw [if_pos c110] at H
                                          have c110b0 : decide (1 < (t385.length : Int)) = true := decide_eq_true c110
                                          have c110b1 : decide (1 < t385.length) = true := decide_eq_true (by omega)
                                          clear c110
                                          (first | rw [c110b0] | (simp only [i64_w, i32_w]; rw [c110b0]) | skip)
                                          by_cases c111 : (rd t394 x39_4) = (rd t394 (ji105))
                                          · as_aux_lemma =>
                                            rw [if_pos c111] at H
                                            have c111b0 : ((rd t394 x39_4) == (rd t394 (ji105))) = true := beq_iff_eq.mpr c111
                                            have c111b1 : ((rd t394 x39_4) != (rd t394 (ji105))) = false := bne_eq_false_iff_eq.mpr c111
                                            clear c111
                                            have H' := Aside0.mk H
                                            clear H
                                            go_wp2
                                            go_meet
                                            case rel => exact ⟨_, (false), (by first | rfl | (simp; done) | (simp [*]; done)), H', ⟨by have := HJ17.out; have := HJ79.out; have := HJ86.out; have := HK4.out; first | omega | exact Nat.le_refl _⟩, ⟨by (with_reducible repeat (first | apply Kd.R_alloc | apply Kd.R_drewN | apply Kd.R_drew)); exact HO_8.out⟩, ⟨by repeat (first | (with_reducible first | exact HB.out | apply below_alloc | apply pw_below_drewN | apply below_drew1) | exact HB.out)⟩⟩
                                          · as_aux_lemma =>
                                            rw [if_neg c111] at H
                                            have c111b0 : ((rd t394 x39_4) == (rd t394 (ji105))) = false := beq_eq_false_iff_ne.mpr c111
                                            have c111b1 : ((rd t394 x39_4) != (rd t394 (ji105))) = true := bne_iff_ne.mpr c111
                                            replace H := Option.bind_eq_some_iff.mp H
                                            obtain ⟨t440, A1120, H⟩ := H
                                            replace H : (laws_FnPasting.j5 k4 t386 t387 t394 t400 (t385.length : Int) x39_4 (rd t394 x39_4) (decide (t440 < (wrap64 (t386 + t387))))) = some r := H
                                            have A112 := Aside0.mk A1120
                                            clear A1120
                                            have H' := Aside0.mk H
                                            clear H
                                            go_wp2_with (first | (go_at_call 36; (with_reducible refine (laws_f6abs.calls (wrap64 ((rd t394 x39_4) - (rd t394 (ji105)))) t440 _ A112.out).mono ?_); rintro e w' ⟨rfl, ⟨nd, rfl⟩⟩))
                                            go_meet
                                            case rel => exact ⟨_, (decide (t440 < (wrap64 (t386 + t387)))), (by first | rfl | (simp; done) | (simp [*]; done)), H', ⟨by have := HJ17.out; have := HJ79.out; have := HJ86.out; have := HK4.out; first | omega | exact Nat.le_refl _⟩, ⟨by (with_reducible repeat (first | apply Kd.R_alloc | apply Kd.R_drewN | apply Kd.R_drew)); exact HO_8.out⟩, ⟨by repeat (first | (with_reducible first | exact HB.out | apply below_alloc | apply pw_below_drewN | apply below_drew1) | exact HB.out)⟩⟩
                                        · as_aux_lemma =>
                                          rw [if_neg c110] at H
                                          have c110b0 : decide (1 < (t385.length : Int)) = false := decide_eq_false c110
                                          have c110b1 : decide (1 < t385.length) = false := decide_eq_false (by omega)
                                          clear c110
                                          (first | rw [c110b0] | (simp only [i64_w, i32_w]; rw [c110b0]) | skip)
                                          have H' := Aside0.mk H
                                          clear H
                                          go_wp2
                                          go_meet
                                          case rel => exact ⟨_, (false), (by first | rfl | (simp; done) | (simp [*]; done)), H', ⟨by have := HJ17.out; have := HJ79.out; have := HJ86.out; have := HK4.out; first | omega | exact Nat.le_refl _⟩, ⟨by (with_reducible repeat (first | apply Kd.R_alloc | apply Kd.R_drewN | apply Kd.R_drew)); exact HO_8.out⟩, ⟨by repeat (first | (with_reducible first | exact HB.out | apply below_alloc | apply pw_below_drewN | apply below_drew1) | exact HB.out)⟩⟩
                                      case rest => as_aux_lemma =>
                                        clear HC108
                                        try clear c1
                                        try clear c2
                                        try clear p2
                                        try clear c3
                                        try clear c4
                                        try clear p4
                                        try clear q4
                                        try clear hx4
                                        try clear p6
                                        try clear c7
                                        try clear c8
                                        try clear c9
                                        try clear c10
                                        try clear c11
                                        try clear c12
                                        try clear c13
                                        try clear c14
                                        try clear c18
                                        try clear c19
                                        try clear c25
                                        try clear c26
                                        try clear c27
                                        try clear c28
                                        try clear c29
                                        try clear c30
                                        try clear c31
                                        try clear c32
                                        try clear c32b0
                                        try clear c32b1
                                        try clear c33
                                        try clear c34
                                        try clear c35
                                        try clear c35b0
                                        try clear c35b1
                                        try clear c36
                                        try clear c36b0
                                        try clear c36b1
                                        try clear c37
                                        try clear c37b0
                                        try clear c37b1
                                        try clear c39
                                        try clear c40
                                        try clear c40b0
                                        try clear c40b1
                                        try clear c41
                                        try clear c41b0
                                        try clear c41b1
                                        try clear c42
                                        try clear c42b0
                                        try clear c42b1
                                        try clear c43
                                        try clear c43b0
                                        try clear c43b1
                                        try clear p43
                                        try clear q43
                                        try clear hx43
                                        try clear p64
                                        try clear c79
                                        try clear c81
                                        try clear c81b0
                                        try clear c81b1
                                        try clear c83
                                        try clear c83b0
                                        try clear c83b1
                                        try clear c86
                                        try clear c88
                                        try clear c88b0
                                        try clear c88b1
                                        try clear c93
                                        try clear c93b0
                                        try clear c93b1
                                        try clear c94
                                        try clear c95
                                        try clear c95b0
                                        try clear c95b1
                                        try clear c96
                                        try clear c96b0
                                        try clear c96b1
                                        try clear c97
                                        try clear c97b0
                                        try clear c97b1
                                        try clear c98
                                        try clear c98b0
                                        try clear c98b1
                                        try clear c99
                                        try clear c99b0
                                        try clear c100
                                        try clear c100b0
                                        try clear c100b1
                                        try clear c101
                                        try clear c101b0
                                        try clear c102
                                        try clear c102b0
                                        try clear c103
                                        try clear c103b0
                                        try clear c104
                                        try clear c104b0
                                        try clear c104b1
                                        try clear c104b2
                                        try clear c106
                                        try clear c106b0
                                        try clear c107
                                        try clear c107b0
                                        try clear c110
                                        try clear c110b0
                                        try clear c110b1
                                        try clear c111
                                        try clear c111b0
                                        try clear c111b1
                                        try clear hx438_0
                                        try clear hx439_0
                                        try clear p2
                                        try clear p438
                                        try clear p439
                                        try clear q438
                                        try clear q439
                                        obtain ⟨kq, x282_107, rfl, HA, HJ107, HO_8, HB⟩ := hcut
                                        cases kq with
                                        | zero => exact absurd HA.out (by simp [laws_FnPasting.j5])
                                        | succ kj107 =>
                                          have H := HA.out
                                          clear HA
                                          simp only [laws_FnPasting.j5] at H
                                          by_cases c113 : x282_107 = true
                                          · as_aux_lemma =>
                                            subst c113
                                            have H1 : (some false) = some r := by rw [if_pos rfl] at H; exact H
                                            clear H
                                            have H := H1
                                            clear H1
                                            obtain rfl := Option.some.inj H
                                            go_wp2
                                            go_ret
                                            exact ⟨by first | rfl | (simp [errW_none, errW_some] <;> rfl) | (simp only [← hji105]; first | rfl | (simp [errW_none, errW_some] <;> rfl)) | (simp [*, errW_none, errW_some] <;> rfl), by repeat (first | (with_reducible first | exact HB.out | apply below_alloc | apply pw_below_drewN | apply below_drew1) | exact HB.out)⟩
                                          · as_aux_lemma =>
                                            replace c113 := Bool.eq_false_iff.mpr c113
                                            subst c113
                                            have H1 : (if (rd t394 x39_4) < 0 then (some false) else (if (wrap64 ((wrap64 ((rd t394 x39_4) + t386)) + t387)) > t400 then (some false) else (laws_FnPasting.l0 kj107 t386 t387 t394 t400 (t385.length : Int) (wrap64 (x39_4 + 1))))) = some r := by rw [if_neg (show ¬ (false = true) by decide)] at H; exact H
                                            clear H
                                            have H := H1
                                            clear H1
                                            by_cases c114 : (rd t394 x39_4) < 0
                                            · as_aux_lemma =>
                                              rw [if_pos c114] at H
                                              have c114b0 : decide ((rd t394 x39_4) < 0) = true := decide_eq_true c114
                                              clear c114
                                              obtain rfl := Option.some.inj H
                                              go_wp2
                                              go_ret
                                              exact ⟨by first | rfl | (simp [errW_none, errW_some] <;> rfl) | (simp only [← hji105]; first | rfl | (simp [errW_none, errW_some] <;> rfl)) | (simp [*, errW_none, errW_some] <;> rfl), by repeat (first | (with_reducible first | exact HB.out | apply below_alloc | apply pw_below_drewN | apply below_drew1) | exact HB.out)⟩
                                            · as_aux_lemma =>
                                              rw [if_neg c114] at H
                                              have c114b0 : decide ((rd t394 x39_4) < 0) = false := decide_eq_false c114
                                              clear c114
                                              by_cases c115 : (wrap64 ((wrap64 ((rd t394 x39_4) + t386)) + t387)) > t400
                                              · as_aux_lemma =>
                                                rw [if_pos c115] at H
                                                have c115b0 : decide (t400 < (wrap64 ((wrap64 ((rd t394 x39_4) + t386)) + t387))) = true := decide_eq_true c115
                                                clear c115
                                                obtain rfl := Option.some.inj H
                                                go_wp2
                                                go_ret
                                                exact ⟨by first | rfl | (simp [errW_none, errW_some] <;> rfl) | (simp only [← hji105]; first | rfl | (simp [errW_none, errW_some] <;> rfl)) | (simp [*, errW_none, errW_some] <;> rfl), by repeat (first | (with_reducible first | exact HB.out | apply below_alloc | apply pw_below_drewN | apply below_drew1) | exact HB.out)⟩
                                              · as_aux_lemma =>
                                                rw [if_neg c115] at H
                                                have c115b0 : decide (t400 < (wrap64 ((wrap64 ((rd t394 x39_4) + t386)) + t387))) = false := decide_eq_false c115
                                                clear c115
                                                have H' := Aside0.mk H
                                                clear H
                                                go_wp2
                                                go_roundg kj107
                                                case measure => have := HJ17.out; have := HJ79.out; have := HJ86.out; have := HK4.out; have := HJ107.out; omega
                                                case rel => exact ⟨(wrap64 (x39_4 + 1)), (by first | rfl | (simp; done) | (simp [*]; done)), H', ⟨by have := HJ17.out; have := HJ79.out; have := HJ86.out; have := HK4.out; have := HJ107.out; omega⟩, ⟨by (with_reducible repeat (first | apply Kd.R_alloc | apply Kd.R_drewN | apply Kd.R_drew)); exact HO_8.out⟩, ⟨by repeat (first | (with_reducible first | exact HB.out | apply below_alloc | apply pw_below_drewN | apply below_drew1) | exact HB.out)⟩⟩
                                    · as_aux_lemma =>
                                      rw [if_neg c107] at H
                                      exact absurd H (by simp)
                                  · as_aux_lemma =>
                                    rw [if_neg c106] at H
                                    exact absurd H (by simp)
                              · as_aux_lemma =>
                                rw [if_neg c103] at H
                                exact absurd H (by simp)
                            · as_aux_lemma =>
                              rw [if_neg c102] at H
                              exact absurd H (by simp)
                          · as_aux_lemma =>
                            rw [if_neg c101] at H
                            have c101b0 : decide (x39_4 < (t385.length : Int)) = false := decide_eq_false c101
                            clear c101
                            obtain rfl := Option.some.inj H
                            go_wp2
                            go_ret
                            exact ⟨by first | rfl | (simp [errW_none, errW_some] <;> rfl) | (simp [*, errW_none, errW_some] <;> rfl), by repeat (first | (with_reducible first | exact HB.out | apply below_alloc | apply pw_below_drewN | apply below_drew1) | exact HB.out)⟩
                    · as_aux_lemma =>
                      rw [if_neg c100] at H
                      have c100b0 : (t391 == 0) = false := beq_eq_false_iff_ne.mpr c100
                      have c100b1 : (t391 != 0) = true := bne_iff_ne.mpr c100
                      obtain rfl := Option.some.inj H
                      go_wp2
                      go_ret
                      exact ⟨by first | rfl | (simp [errW_none, errW_some] <;> rfl) | (simp [*, errW_none, errW_some] <;> rfl), by repeat (first | (with_reducible first | exact HB.out | apply below_alloc | apply pw_below_drewN | apply below_drew1) | exact HB.out)⟩

/-- THE ONE PURE STATEMENT of laws_FnPasting: yours. -/
def laws_FnPasting.Pure : Prop := ∀ (l0 : List Int), l0.length ≤ maxLen → l0.length * 1 ≤ 140737488351232 → (∀ x ∈ l0, (Lit.int .u8 x).wf = true) → ∃ k, laws_FnPasting.f k l0 = some true
theorem laws_FnPasting.walk (P : laws_FnPasting.Pure) (a0 : Option Addr) (len0 cap0 : Nat) (z0 : List Int) (w : World) (w0 : (a0 = none ∧ len0 = 0 ∧ cap0 = 0 ∧ z0 = []) ∨ ∃ x, a0 = some x ∧ len0 ≤ cap0 ∧ cap0 ≤ maxLen ∧ z0.length = cap0 ∧ (∀ i, i < z0.length → w.cell? (x.add i) = some (.int .u8 (z0.getD i 0))) ∧ ∀ n ∈ z0, (Lit.int .u8 n).wf = true) (y0 : len0 * 1 ≤ 140737488351232) :
    Calls Try.prog 10 #[.slice a0 len0 cap0] w fun e w' => e = .returned (.bool true) ∧ Below w.heap.size w w' := by
  obtain ⟨l0, rfl, hr0, hm0, hw0, hc0⟩ := ReadsInt.ofRowC w0
  obtain ⟨k, h⟩ := P l0 hm0 y0 hw0
  refine (laws_FnPasting.calls k _ _ l0 true w (Kd.C_of_reads (d := (0 : Int)) (h1 := fun _ => rfl) hr0) hc0 h).mono ?_
  rintro e w' ⟨rfl, hd⟩
  exact ⟨rfl, hd⟩

end Go.Proofs.Ytfpddpkloplpeaa.QFnPasting
