/- Walks of the Go functions that the law FnBalanceOf reaches: written by a program of this session. -/
import Derived.Test.YtncejfhmachapaaQFnBalanceOfx0
import Derived.Test.YtncejfhmachapaaQFnBalanceOfx1
import Derived.Test.YtncejfhmachapaaQFnBalanceOfx2
import Derived.Test.YtncejfhmachapaaQFnBalanceOfx3
import Derived.Test.YtncejfhmachapaaQFnBalanceOfx4
import Derived.Test.YtncejfhmachapaaQFnBalanceOfx5
import Derived.Test.YtncejfhmachapaaQFnBalanceOfx6
import Derived.Test.YtncejfhmachapaaQFnBalanceOfx7
namespace Go.Proofs.Ytncejfhmachapaa.QFnBalanceOf
open Go.RowKit Go.Proofs.YtncejfhmachapaaW.PrintWords Go.Proofs.YtncejfhmachapaaW.PrintLast Go.Proofs.YtncejfhmachapaaW.PrintMore
attribute [local go_sem] max2_int min2_int max_two min_two max_three min_three max_four min_four   -- for this text's walks alone
open Go.Proofs.YtncejfhmachapaaW.PrintWords renaming below_alloc → ae, below_drew1 → ac, below_size → aw, below_step → ap, gate_dst → bi, pw_below_drewN → ab
open Go.Proofs.YtncejfhmachapaaW.PrintWords.Aside0 renaming mk → aa
open Go.Proofs.YtncejfhmachapaaW.PrintWords.Kd renaming C_alloc → ay, C_drew → ba, C_drewN → az, R_alloc → af, R_apart' → bk, R_below → ax, R_drew → ah, R_drewN → ag, R_lower → bg, R_mono → av, R_reads' → an, R_slice → bc, R_typed → bd, at_int → be
open Option renaming bind_eq_some_iff → bl
set_option linter.unusedVariables false
set_option linter.unusedSimpArgs false

/-! ### laws_FnBalanceOf: function 14 -/
mutual
def laws_FnBalanceOf.j0 : Nat → List (S64) → List (S62) → Int → Int → Int → List (S64) → Int → Int → Bool → Bool → Option (Bool)
 | 0, _, _, _, _, _, _, _, _, _, _ => none
 | k + 1, x3, x4, x7, x8, x9, x15, x16, x18, x19, x119 => if x119 = true then (some false) else (if x18 = 0 then ((impl_MomentOf.f k x15).bind fun bt414 => (if bt414.2 = 0 then (laws_FnBalanceOf.j1 k x3 x4 x7 x8 x9 x16 x19 bt414.1 ((bt414.1.length : Int) != 3)) else (laws_FnBalanceOf.j1 k x3 x4 x7 x8 x9 x16 x19 bt414.1 true))) else (laws_FnBalanceOf.j2 k x3 x4 x7 x8 x9))
def laws_FnBalanceOf.j2 : Nat → List (S64) → List (S62) → Int → Int → Int → Option (Bool)
 | 0, _, _, _, _, _ => none
 | k + 1, x3, x4, x7, x8, x9 => if x7 = 0 then (laws_FnBalanceOf.j3 k x3 x4 x8 x9 (decide ((x3.length : Int) ≥ 10))) else (laws_FnBalanceOf.j3 k x3 x4 x8 x9 true)
def laws_FnBalanceOf.j3 : Nat → List (S64) → List (S62) → Int → Int → Bool → Option (Bool)
 | 0, _, _, _, _, _ => none
 | k + 1, x3, x4, x8, x9, x164 => if x164 = true then (some true) else (laws_FnBalanceOf.l0 k x3 x4 x8 x9 (([] : List Int)) (-1))
def laws_FnBalanceOf.l0 : Nat → List (S64) → List (S62) → Int → Int → List Int → Int → Option (Bool)
 | 0, _, _, _, _, _, _ => none
 | k + 1, x3, x4, x8, x9, x23, x24 => if x24 ≤ 1 then (if (wrap64 (x9 + x24)) < 1 then (laws_FnBalanceOf.j5 k x3 x4 x8 x9 x23 x24 (wrap64 (x9 + x24)) true) else (laws_FnBalanceOf.j5 k x3 x4 x8 x9 x23 x24 (wrap64 (x9 + x24)) (decide ((wrap64 (x9 + x24)) > 1000)))) else (laws_FnBalanceOf.l1 k x23 1)
def laws_FnBalanceOf.j5 : Nat → List (S64) → List (S62) → Int → Int → List Int → Int → Int → Bool → Option (Bool)
 | 0, _, _, _, _, _, _, _, _ => none
 | k + 1, x3, x4, x8, x9, x23, x24, x25, x178 => if x178 = true then (laws_FnBalanceOf.l0 k x3 x4 x8 x9 x23 (wrap64 (x24 + 1))) else ((some (([] : List (S64)) : List (S64))).bind fun y427 => (if y427.length + x3.length < 5864062014805 then ((some (y427 ++ x3 : List (S64))).bind fun y430 => (if 0 ≤ x8 then (if x8 < (x4.length : Int) then ((some (([(⟨x25, (⟨(rd_T62 x4 x8).f0, (rd_T62 x4 x8).f1⟩ : S62)⟩ : S64)] : List (S64)) : List (S64))).bind fun y434 => (if y430.length + y434.length < 5864062014805 then ((impl_MomentOf.f k (y430 ++ y434)).bind fun bt440 => (if bt440.2 = 0 then (laws_FnBalanceOf.j6 k x3 x4 x8 x9 x23 x24 bt440.1 ((bt440.1.length : Int) != 3)) else (laws_FnBalanceOf.j6 k x3 x4 x8 x9 x23 x24 bt440.1 true))) else (none))) else (none)) else (none))) else (none)))
def laws_FnBalanceOf.j6 : Nat → List (S64) → List (S62) → Int → Int → List Int → Int → List Int → Bool → Option (Bool)
 | 0, _, _, _, _, _, _, _, _ => none
 | k + 1, x3, x4, x8, x9, x23, x24, x27, x201 => if x201 = true then (some false) else (if 0 < (x27.length : Int) then ((laws_f6abs.f (rd x27 0)).bind fun t445 => (if 1 < (x27.length : Int) then ((laws_f6abs.f (rd x27 1)).bind fun t447 => (if 2 < (x27.length : Int) then ((laws_f6abs.f (rd x27 2)).bind fun t449 => (if x24 = 0 then ((some (([wrap64 ((wrap64 (t445 + t447)) + t449)] : List Int) : List Int)).bind fun y450 => (if y450.length + x23.length < 17592186044416 then (laws_FnBalanceOf.l0 k x3 x4 x8 x9 (y450 ++ x23) (wrap64 (x24 + 1))) else (none))) else ((some (([wrap64 ((wrap64 (t445 + t447)) + t449)] : List Int) : List Int)).bind fun y456 => (if x23.length + y456.length < 17592186044416 then (laws_FnBalanceOf.l0 k x3 x4 x8 x9 (x23 ++ y456) (wrap64 (x24 + 1))) else (none))))) else (none))) else (none))) else (none))
def laws_FnBalanceOf.l1 : Nat → List Int → Int → Option (Bool)
 | 0, _, _ => none
 | k + 1, x23, x30 => if x30 < (x23.length : Int) then (if 0 ≤ x30 then (if 0 < (x23.length : Int) then (if (rd x23 x30) < (rd x23 0) then (some false) else (laws_FnBalanceOf.l1 k x23 (wrap64 (x30 + 1)))) else (none)) else (none)) else (some true)
def laws_FnBalanceOf.j1 : Nat → List (S64) → List (S62) → Int → Int → Int → Int → Bool → List Int → Bool → Option (Bool)
 | 0, _, _, _, _, _, _, _, _, _ => none
 | k + 1, x3, x4, x7, x8, x9, x16, x19, x21, x133 => if x133 = true then (some false) else (if 0 < (x21.length : Int) then ((laws_f6abs.f (rd x21 0)).bind fun t419 => (if t419 ≤ x16 then (if 1 < (x21.length : Int) then ((laws_f6abs.f (rd x21 1)).bind fun t421 => (if t421 ≤ x16 then (if 2 < (x21.length : Int) then ((laws_f6abs.f (rd x21 2)).bind fun t423 => (if (x19 != (decide (t423 ≤ x16))) = true then (some false) else (laws_FnBalanceOf.j2 k x3 x4 x7 x8 x9))) else (none)) else (if (x19 != false) = true then (some false) else (laws_FnBalanceOf.j2 k x3 x4 x7 x8 x9)))) else (none)) else (if (x19 != false) = true then (some false) else (laws_FnBalanceOf.j2 k x3 x4 x7 x8 x9)))) else (none))
end
def laws_FnBalanceOf.f (k : Nat) (l0 : List Int) : Option (Bool) := (laws_f6big.f l0).bind fun t382 => (if t382 = true then (some true) else ((spec_DrawCounterLoad.f k l0).bind fun bt383 => ((impl_CounterLoad.f k bt383.1 bt383.2).bind fun bt389 => ((spec_CounterLoad.f k bt383.1 bt383.2).bind fun bt392 => ((impl_MomentOf.f k bt383.1).bind fun bt395 => ((spec_MomentOf.f k bt383.1).bind fun bt399 => ((spec_DrawIsEven.f k l0).bind fun bt403 => ((impl_IsEven.f k bt403.1 bt403.2).bind fun bt407 => ((spec_IsEven.f k bt403.1 bt403.2).bind fun bt409 => (if bt389.2.2 = bt392.2.2 then (if bt389.1 = bt392.1 then (if bt389.2.1 = bt392.2.1 then (if bt395.2 = bt399.2 then ((laws_f6ints.f k bt395.1 bt399.1).bind fun t411 => (if t411 = true then (if bt407.2 = bt409.2 then (if (bt407.1 != bt409.1) = true then (laws_FnBalanceOf.j0 k bt383.1 bt383.2 bt389.2.2 bt392.1 bt392.2.1 bt403.1 bt403.2 bt407.2 bt409.1 true) else ((impl_ValidLoads.f bt383.1).bind fun t412 => ((spec_ValidLoads.f k bt383.1).bind fun t413 => (laws_FnBalanceOf.j0 k bt383.1 bt383.2 bt389.2.2 bt392.1 bt392.2.1 bt403.1 bt403.2 bt407.2 bt409.1 (t412 != t413))))) else (laws_FnBalanceOf.j0 k bt383.1 bt383.2 bt389.2.2 bt392.1 bt392.2.1 bt403.1 bt403.2 bt407.2 bt409.1 true)) else (laws_FnBalanceOf.j0 k bt383.1 bt383.2 bt389.2.2 bt392.1 bt392.2.1 bt403.1 bt403.2 bt407.2 bt409.1 true))) else (laws_FnBalanceOf.j0 k bt383.1 bt383.2 bt389.2.2 bt392.1 bt392.2.1 bt403.1 bt403.2 bt407.2 bt409.1 true)) else (laws_FnBalanceOf.j0 k bt383.1 bt383.2 bt389.2.2 bt392.1 bt392.2.1 bt403.1 bt403.2 bt407.2 bt409.1 true)) else (laws_FnBalanceOf.j0 k bt383.1 bt383.2 bt389.2.2 bt392.1 bt392.2.1 bt403.1 bt403.2 bt407.2 bt409.1 true)) else (laws_FnBalanceOf.j0 k bt383.1 bt383.2 bt389.2.2 bt392.1 bt392.2.1 bt403.1 bt403.2 bt407.2 bt409.1 true)))))))))))
theorem laws_FnBalanceOf.mono_l : ∀ k, (∀ y0 y1 y2 y3 y4 y5 y6 y7 y8 y9, LeO (laws_FnBalanceOf.j0 k y0 y1 y2 y3 y4 y5 y6 y7 y8 y9) (laws_FnBalanceOf.j0 (k + 1) y0 y1 y2 y3 y4 y5 y6 y7 y8 y9)) ∧ (∀ y0 y1 y2 y3 y4, LeO (laws_FnBalanceOf.j2 k y0 y1 y2 y3 y4) (laws_FnBalanceOf.j2 (k + 1) y0 y1 y2 y3 y4)) ∧ (∀ y0 y1 y2 y3 y4, LeO (laws_FnBalanceOf.j3 k y0 y1 y2 y3 y4) (laws_FnBalanceOf.j3 (k + 1) y0 y1 y2 y3 y4)) ∧ (∀ y0 y1 y2 y3 y4 y5, LeO (laws_FnBalanceOf.l0 k y0 y1 y2 y3 y4 y5) (laws_FnBalanceOf.l0 (k + 1) y0 y1 y2 y3 y4 y5)) ∧ (∀ y0 y1 y2 y3 y4 y5 y6 y7, LeO (laws_FnBalanceOf.j5 k y0 y1 y2 y3 y4 y5 y6 y7) (laws_FnBalanceOf.j5 (k + 1) y0 y1 y2 y3 y4 y5 y6 y7)) ∧ (∀ y0 y1 y2 y3 y4 y5 y6 y7, LeO (laws_FnBalanceOf.j6 k y0 y1 y2 y3 y4 y5 y6 y7) (laws_FnBalanceOf.j6 (k + 1) y0 y1 y2 y3 y4 y5 y6 y7)) ∧ (∀ y0 y1, LeO (laws_FnBalanceOf.l1 k y0 y1) (laws_FnBalanceOf.l1 (k + 1) y0 y1)) ∧ (∀ y0 y1 y2 y3 y4 y5 y6 y7 y8, LeO (laws_FnBalanceOf.j1 k y0 y1 y2 y3 y4 y5 y6 y7 y8) (laws_FnBalanceOf.j1 (k + 1) y0 y1 y2 y3 y4 y5 y6 y7 y8))
 | 0 => ⟨fun _ _ _ _ _ _ _ _ _ _ r h => by simp [laws_FnBalanceOf.j0] at h, fun _ _ _ _ _ r h => by simp [laws_FnBalanceOf.j2] at h, fun _ _ _ _ _ r h => by simp [laws_FnBalanceOf.j3] at h, fun _ _ _ _ _ _ r h => by simp [laws_FnBalanceOf.l0] at h, fun _ _ _ _ _ _ _ _ r h => by simp [laws_FnBalanceOf.j5] at h, fun _ _ _ _ _ _ _ _ r h => by simp [laws_FnBalanceOf.j6] at h, fun _ _ r h => by simp [laws_FnBalanceOf.l1] at h, fun _ _ _ _ _ _ _ _ _ r h => by simp [laws_FnBalanceOf.j1] at h⟩
 | k + 1 => by
  obtain ⟨ih0, ih1, ih2, ih3, ih4, ih5, ih6, ih7⟩ := laws_FnBalanceOf.mono_l k
  refine ⟨?_, ?_, ?_, ?_, ?_, ?_, ?_, ?_⟩
  ·intro y0 y1 y2 y3 y4 y5 y6 y7 y8 y9
   unfold laws_FnBalanceOf.j0
   repeat' first
   | (with_reducible exact ih0 _ _ _ _ _ _ _ _ _ _)
   | (with_reducible exact ih1 _ _ _ _ _)
   | (with_reducible exact ih2 _ _ _ _ _)
   | (with_reducible exact ih3 _ _ _ _ _ _)
   | (with_reducible exact ih4 _ _ _ _ _ _ _ _)
   | (with_reducible exact ih5 _ _ _ _ _ _ _ _)
   | (with_reducible exact ih6 _ _)
   | (with_reducible exact ih7 _ _ _ _ _ _ _ _ _)
   | (with_reducible exact impl_CounterLoad.mono _ _ _)
   | (with_reducible exact impl_IsEven.mono _ _ _)
   | (with_reducible exact impl_MomentOf.mono _ _)
   | (with_reducible exact laws_f6ints.mono _ _ _)
   | (with_reducible exact spec_CounterLoad.mono _ _ _)
   | (with_reducible exact spec_DrawCounterLoad.mono _ _)
   | (with_reducible exact spec_DrawIsEven.mono _ _)
   | (with_reducible exact spec_IsEven.mono _ _ _)
   | (with_reducible exact spec_MomentOf.mono _ _)
   | (with_reducible exact spec_ValidLoads.mono _ _)
   | (with_reducible exact LeO.refl _)
   | (with_reducible exact LeO.none _)
   | (with_reducible refine LeO.ite ?_ ?_)
   | (with_reducible refine LeO.bind ?_ (fun _ => ?_))
   | exact ih0 _ _ _ _ _ _ _ _ _ _
   | exact ih1 _ _ _ _ _
   | exact ih2 _ _ _ _ _
   | exact ih3 _ _ _ _ _ _
   | exact ih4 _ _ _ _ _ _ _ _
   | exact ih5 _ _ _ _ _ _ _ _
   | exact ih6 _ _
   | exact ih7 _ _ _ _ _ _ _ _ _
   | exact impl_CounterLoad.mono _ _ _
   | exact impl_IsEven.mono _ _ _
   | exact impl_MomentOf.mono _ _
   | exact laws_f6ints.mono _ _ _
   | exact spec_CounterLoad.mono _ _ _
   | exact spec_DrawCounterLoad.mono _ _
   | exact spec_DrawIsEven.mono _ _
   | exact spec_IsEven.mono _ _ _
   | exact spec_MomentOf.mono _ _
   | exact spec_ValidLoads.mono _ _
   | exact LeO.none _
   | refine LeO.ite ?_ ?_
   | refine LeO.bind ?_ (fun _ => ?_)
  ·intro y0 y1 y2 y3 y4
   unfold laws_FnBalanceOf.j2
   repeat' first
   | (with_reducible exact ih0 _ _ _ _ _ _ _ _ _ _)
   | (with_reducible exact ih1 _ _ _ _ _)
   | (with_reducible exact ih2 _ _ _ _ _)
   | (with_reducible exact ih3 _ _ _ _ _ _)
   | (with_reducible exact ih4 _ _ _ _ _ _ _ _)
   | (with_reducible exact ih5 _ _ _ _ _ _ _ _)
   | (with_reducible exact ih6 _ _)
   | (with_reducible exact ih7 _ _ _ _ _ _ _ _ _)
   | (with_reducible exact impl_CounterLoad.mono _ _ _)
   | (with_reducible exact impl_IsEven.mono _ _ _)
   | (with_reducible exact impl_MomentOf.mono _ _)
   | (with_reducible exact laws_f6ints.mono _ _ _)
   | (with_reducible exact spec_CounterLoad.mono _ _ _)
   | (with_reducible exact spec_DrawCounterLoad.mono _ _)
   | (with_reducible exact spec_DrawIsEven.mono _ _)
   | (with_reducible exact spec_IsEven.mono _ _ _)
   | (with_reducible exact spec_MomentOf.mono _ _)
   | (with_reducible exact spec_ValidLoads.mono _ _)
   | (with_reducible exact LeO.refl _)
   | (with_reducible exact LeO.none _)
   | (with_reducible refine LeO.ite ?_ ?_)
   | (with_reducible refine LeO.bind ?_ (fun _ => ?_))
   | exact ih0 _ _ _ _ _ _ _ _ _ _
   | exact ih1 _ _ _ _ _
   | exact ih2 _ _ _ _ _
   | exact ih3 _ _ _ _ _ _
   | exact ih4 _ _ _ _ _ _ _ _
   | exact ih5 _ _ _ _ _ _ _ _
   | exact ih6 _ _
   | exact ih7 _ _ _ _ _ _ _ _ _
   | exact impl_CounterLoad.mono _ _ _
   | exact impl_IsEven.mono _ _ _
   | exact impl_MomentOf.mono _ _
   | exact laws_f6ints.mono _ _ _
   | exact spec_CounterLoad.mono _ _ _
   | exact spec_DrawCounterLoad.mono _ _
   | exact spec_DrawIsEven.mono _ _
   | exact spec_IsEven.mono _ _ _
   | exact spec_MomentOf.mono _ _
   | exact spec_ValidLoads.mono _ _
   | exact LeO.none _
   | refine LeO.ite ?_ ?_
   | refine LeO.bind ?_ (fun _ => ?_)
  ·intro y0 y1 y2 y3 y4
   unfold laws_FnBalanceOf.j3
   repeat' first
   | (with_reducible exact ih0 _ _ _ _ _ _ _ _ _ _)
   | (with_reducible exact ih1 _ _ _ _ _)
   | (with_reducible exact ih2 _ _ _ _ _)
   | (with_reducible exact ih3 _ _ _ _ _ _)
   | (with_reducible exact ih4 _ _ _ _ _ _ _ _)
   | (with_reducible exact ih5 _ _ _ _ _ _ _ _)
   | (with_reducible exact ih6 _ _)
   | (with_reducible exact ih7 _ _ _ _ _ _ _ _ _)
   | (with_reducible exact impl_CounterLoad.mono _ _ _)
   | (with_reducible exact impl_IsEven.mono _ _ _)
   | (with_reducible exact impl_MomentOf.mono _ _)
   | (with_reducible exact laws_f6ints.mono _ _ _)
   | (with_reducible exact spec_CounterLoad.mono _ _ _)
   | (with_reducible exact spec_DrawCounterLoad.mono _ _)
   | (with_reducible exact spec_DrawIsEven.mono _ _)
   | (with_reducible exact spec_IsEven.mono _ _ _)
   | (with_reducible exact spec_MomentOf.mono _ _)
   | (with_reducible exact spec_ValidLoads.mono _ _)
   | (with_reducible exact LeO.refl _)
   | (with_reducible exact LeO.none _)
   | (with_reducible refine LeO.ite ?_ ?_)
   | (with_reducible refine LeO.bind ?_ (fun _ => ?_))
   | exact ih0 _ _ _ _ _ _ _ _ _ _
   | exact ih1 _ _ _ _ _
   | exact ih2 _ _ _ _ _
   | exact ih3 _ _ _ _ _ _
   | exact ih4 _ _ _ _ _ _ _ _
   | exact ih5 _ _ _ _ _ _ _ _
   | exact ih6 _ _
   | exact ih7 _ _ _ _ _ _ _ _ _
   | exact impl_CounterLoad.mono _ _ _
   | exact impl_IsEven.mono _ _ _
   | exact impl_MomentOf.mono _ _
   | exact laws_f6ints.mono _ _ _
   | exact spec_CounterLoad.mono _ _ _
   | exact spec_DrawCounterLoad.mono _ _
   | exact spec_DrawIsEven.mono _ _
   | exact spec_IsEven.mono _ _ _
   | exact spec_MomentOf.mono _ _
   | exact spec_ValidLoads.mono _ _
   | exact LeO.none _
   | refine LeO.ite ?_ ?_
   | refine LeO.bind ?_ (fun _ => ?_)
  ·intro y0 y1 y2 y3 y4 y5
   unfold laws_FnBalanceOf.l0
   repeat' first
   | (with_reducible exact ih0 _ _ _ _ _ _ _ _ _ _)
   | (with_reducible exact ih1 _ _ _ _ _)
   | (with_reducible exact ih2 _ _ _ _ _)
   | (with_reducible exact ih3 _ _ _ _ _ _)
   | (with_reducible exact ih4 _ _ _ _ _ _ _ _)
   | (with_reducible exact ih5 _ _ _ _ _ _ _ _)
   | (with_reducible exact ih6 _ _)
   | (with_reducible exact ih7 _ _ _ _ _ _ _ _ _)
   | (with_reducible exact impl_CounterLoad.mono _ _ _)
   | (with_reducible exact impl_IsEven.mono _ _ _)
   | (with_reducible exact impl_MomentOf.mono _ _)
   | (with_reducible exact laws_f6ints.mono _ _ _)
   | (with_reducible exact spec_CounterLoad.mono _ _ _)
   | (with_reducible exact spec_DrawCounterLoad.mono _ _)
   | (with_reducible exact spec_DrawIsEven.mono _ _)
   | (with_reducible exact spec_IsEven.mono _ _ _)
   | (with_reducible exact spec_MomentOf.mono _ _)
   | (with_reducible exact spec_ValidLoads.mono _ _)
   | (with_reducible exact LeO.refl _)
   | (with_reducible exact LeO.none _)
   | (with_reducible refine LeO.ite ?_ ?_)
   | (with_reducible refine LeO.bind ?_ (fun _ => ?_))
   | exact ih0 _ _ _ _ _ _ _ _ _ _
   | exact ih1 _ _ _ _ _
   | exact ih2 _ _ _ _ _
   | exact ih3 _ _ _ _ _ _
   | exact ih4 _ _ _ _ _ _ _ _
   | exact ih5 _ _ _ _ _ _ _ _
   | exact ih6 _ _
   | exact ih7 _ _ _ _ _ _ _ _ _
   | exact impl_CounterLoad.mono _ _ _
   | exact impl_IsEven.mono _ _ _
   | exact impl_MomentOf.mono _ _
   | exact laws_f6ints.mono _ _ _
   | exact spec_CounterLoad.mono _ _ _
   | exact spec_DrawCounterLoad.mono _ _
   | exact spec_DrawIsEven.mono _ _
   | exact spec_IsEven.mono _ _ _
   | exact spec_MomentOf.mono _ _
   | exact spec_ValidLoads.mono _ _
   | exact LeO.none _
   | refine LeO.ite ?_ ?_
   | refine LeO.bind ?_ (fun _ => ?_)
  ·intro y0 y1 y2 y3 y4 y5 y6 y7
   unfold laws_FnBalanceOf.j5
   repeat' first
   | (with_reducible exact ih0 _ _ _ _ _ _ _ _ _ _)
   | (with_reducible exact ih1 _ _ _ _ _)
   | (with_reducible exact ih2 _ _ _ _ _)
   | (with_reducible exact ih3 _ _ _ _ _ _)
   | (with_reducible exact ih4 _ _ _ _ _ _ _ _)
   | (with_reducible exact ih5 _ _ _ _ _ _ _ _)
   | (with_reducible exact ih6 _ _)
   | (with_reducible exact ih7 _ _ _ _ _ _ _ _ _)
   | (with_reducible exact impl_CounterLoad.mono _ _ _)
   | (with_reducible exact impl_IsEven.mono _ _ _)
   | (with_reducible exact impl_MomentOf.mono _ _)
   | (with_reducible exact laws_f6ints.mono _ _ _)
   | (with_reducible exact spec_CounterLoad.mono _ _ _)
   | (with_reducible exact spec_DrawCounterLoad.mono _ _)
   | (with_reducible exact spec_DrawIsEven.mono _ _)
   | (with_reducible exact spec_IsEven.mono _ _ _)
   | (with_reducible exact spec_MomentOf.mono _ _)
   | (with_reducible exact spec_ValidLoads.mono _ _)
   | (with_reducible exact LeO.refl _)
   | (with_reducible exact LeO.none _)
   | (with_reducible refine LeO.ite ?_ ?_)
   | (with_reducible refine LeO.bind ?_ (fun _ => ?_))
   | exact ih0 _ _ _ _ _ _ _ _ _ _
   | exact ih1 _ _ _ _ _
   | exact ih2 _ _ _ _ _
   | exact ih3 _ _ _ _ _ _
   | exact ih4 _ _ _ _ _ _ _ _
   | exact ih5 _ _ _ _ _ _ _ _
   | exact ih6 _ _
   | exact ih7 _ _ _ _ _ _ _ _ _
   | exact impl_CounterLoad.mono _ _ _
   | exact impl_IsEven.mono _ _ _
   | exact impl_MomentOf.mono _ _
   | exact laws_f6ints.mono _ _ _
   | exact spec_CounterLoad.mono _ _ _
   | exact spec_DrawCounterLoad.mono _ _
   | exact spec_DrawIsEven.mono _ _
   | exact spec_IsEven.mono _ _ _
   | exact spec_MomentOf.mono _ _
   | exact spec_ValidLoads.mono _ _
   | exact LeO.none _
   | refine LeO.ite ?_ ?_
   | refine LeO.bind ?_ (fun _ => ?_)
  ·intro y0 y1 y2 y3 y4 y5 y6 y7
   unfold laws_FnBalanceOf.j6
   repeat' first
   | (with_reducible exact ih0 _ _ _ _ _ _ _ _ _ _)
   | (with_reducible exact ih1 _ _ _ _ _)
   | (with_reducible exact ih2 _ _ _ _ _)
   | (with_reducible exact ih3 _ _ _ _ _ _)
   | (with_reducible exact ih4 _ _ _ _ _ _ _ _)
   | (with_reducible exact ih5 _ _ _ _ _ _ _ _)
   | (with_reducible exact ih6 _ _)
   | (with_reducible exact ih7 _ _ _ _ _ _ _ _ _)
   | (with_reducible exact impl_CounterLoad.mono _ _ _)
   | (with_reducible exact impl_IsEven.mono _ _ _)
   | (with_reducible exact impl_MomentOf.mono _ _)
   | (with_reducible exact laws_f6ints.mono _ _ _)
   | (with_reducible exact spec_CounterLoad.mono _ _ _)
   | (with_reducible exact spec_DrawCounterLoad.mono _ _)
   | (with_reducible exact spec_DrawIsEven.mono _ _)
   | (with_reducible exact spec_IsEven.mono _ _ _)
   | (with_reducible exact spec_MomentOf.mono _ _)
   | (with_reducible exact spec_ValidLoads.mono _ _)
   | (with_reducible exact LeO.refl _)
   | (with_reducible exact LeO.none _)
   | (with_reducible refine LeO.ite ?_ ?_)
   | (with_reducible refine LeO.bind ?_ (fun _ => ?_))
   | exact ih0 _ _ _ _ _ _ _ _ _ _
   | exact ih1 _ _ _ _ _
   | exact ih2 _ _ _ _ _
   | exact ih3 _ _ _ _ _ _
   | exact ih4 _ _ _ _ _ _ _ _
   | exact ih5 _ _ _ _ _ _ _ _
   | exact ih6 _ _
   | exact ih7 _ _ _ _ _ _ _ _ _
   | exact impl_CounterLoad.mono _ _ _
   | exact impl_IsEven.mono _ _ _
   | exact impl_MomentOf.mono _ _
   | exact laws_f6ints.mono _ _ _
   | exact spec_CounterLoad.mono _ _ _
   | exact spec_DrawCounterLoad.mono _ _
   | exact spec_DrawIsEven.mono _ _
   | exact spec_IsEven.mono _ _ _
   | exact spec_MomentOf.mono _ _
   | exact spec_ValidLoads.mono _ _
   | exact LeO.none _
   | refine LeO.ite ?_ ?_
   | refine LeO.bind ?_ (fun _ => ?_)
  ·intro y0 y1
   unfold laws_FnBalanceOf.l1
   repeat' first
   | (with_reducible exact ih0 _ _ _ _ _ _ _ _ _ _)
   | (with_reducible exact ih1 _ _ _ _ _)
   | (with_reducible exact ih2 _ _ _ _ _)
   | (with_reducible exact ih3 _ _ _ _ _ _)
   | (with_reducible exact ih4 _ _ _ _ _ _ _ _)
   | (with_reducible exact ih5 _ _ _ _ _ _ _ _)
   | (with_reducible exact ih6 _ _)
   | (with_reducible exact ih7 _ _ _ _ _ _ _ _ _)
   | (with_reducible exact impl_CounterLoad.mono _ _ _)
   | (with_reducible exact impl_IsEven.mono _ _ _)
   | (with_reducible exact impl_MomentOf.mono _ _)
   | (with_reducible exact laws_f6ints.mono _ _ _)
   | (with_reducible exact spec_CounterLoad.mono _ _ _)
   | (with_reducible exact spec_DrawCounterLoad.mono _ _)
   | (with_reducible exact spec_DrawIsEven.mono _ _)
   | (with_reducible exact spec_IsEven.mono _ _ _)
   | (with_reducible exact spec_MomentOf.mono _ _)
   | (with_reducible exact spec_ValidLoads.mono _ _)
   | (with_reducible exact LeO.refl _)
   | (with_reducible exact LeO.none _)
   | (with_reducible refine LeO.ite ?_ ?_)
   | (with_reducible refine LeO.bind ?_ (fun _ => ?_))
   | exact ih0 _ _ _ _ _ _ _ _ _ _
   | exact ih1 _ _ _ _ _
   | exact ih2 _ _ _ _ _
   | exact ih3 _ _ _ _ _ _
   | exact ih4 _ _ _ _ _ _ _ _
   | exact ih5 _ _ _ _ _ _ _ _
   | exact ih6 _ _
   | exact ih7 _ _ _ _ _ _ _ _ _
   | exact impl_CounterLoad.mono _ _ _
   | exact impl_IsEven.mono _ _ _
   | exact impl_MomentOf.mono _ _
   | exact laws_f6ints.mono _ _ _
   | exact spec_CounterLoad.mono _ _ _
   | exact spec_DrawCounterLoad.mono _ _
   | exact spec_DrawIsEven.mono _ _
   | exact spec_IsEven.mono _ _ _
   | exact spec_MomentOf.mono _ _
   | exact spec_ValidLoads.mono _ _
   | exact LeO.none _
   | refine LeO.ite ?_ ?_
   | refine LeO.bind ?_ (fun _ => ?_)
  ·intro y0 y1 y2 y3 y4 y5 y6 y7 y8
   unfold laws_FnBalanceOf.j1
   repeat' first
   | (with_reducible exact ih0 _ _ _ _ _ _ _ _ _ _)
   | (with_reducible exact ih1 _ _ _ _ _)
   | (with_reducible exact ih2 _ _ _ _ _)
   | (with_reducible exact ih3 _ _ _ _ _ _)
   | (with_reducible exact ih4 _ _ _ _ _ _ _ _)
   | (with_reducible exact ih5 _ _ _ _ _ _ _ _)
   | (with_reducible exact ih6 _ _)
   | (with_reducible exact ih7 _ _ _ _ _ _ _ _ _)
   | (with_reducible exact impl_CounterLoad.mono _ _ _)
   | (with_reducible exact impl_IsEven.mono _ _ _)
   | (with_reducible exact impl_MomentOf.mono _ _)
   | (with_reducible exact laws_f6ints.mono _ _ _)
   | (with_reducible exact spec_CounterLoad.mono _ _ _)
   | (with_reducible exact spec_DrawCounterLoad.mono _ _)
   | (with_reducible exact spec_DrawIsEven.mono _ _)
   | (with_reducible exact spec_IsEven.mono _ _ _)
   | (with_reducible exact spec_MomentOf.mono _ _)
   | (with_reducible exact spec_ValidLoads.mono _ _)
   | (with_reducible exact LeO.refl _)
   | (with_reducible exact LeO.none _)
   | (with_reducible refine LeO.ite ?_ ?_)
   | (with_reducible refine LeO.bind ?_ (fun _ => ?_))
   | exact ih0 _ _ _ _ _ _ _ _ _ _
   | exact ih1 _ _ _ _ _
   | exact ih2 _ _ _ _ _
   | exact ih3 _ _ _ _ _ _
   | exact ih4 _ _ _ _ _ _ _ _
   | exact ih5 _ _ _ _ _ _ _ _
   | exact ih6 _ _
   | exact ih7 _ _ _ _ _ _ _ _ _
   | exact impl_CounterLoad.mono _ _ _
   | exact impl_IsEven.mono _ _ _
   | exact impl_MomentOf.mono _ _
   | exact laws_f6ints.mono _ _ _
   | exact spec_CounterLoad.mono _ _ _
   | exact spec_DrawCounterLoad.mono _ _
   | exact spec_DrawIsEven.mono _ _
   | exact spec_IsEven.mono _ _ _
   | exact spec_MomentOf.mono _ _
   | exact spec_ValidLoads.mono _ _
   | exact LeO.none _
   | refine LeO.ite ?_ ?_
   | refine LeO.bind ?_ (fun _ => ?_)
theorem laws_FnBalanceOf.mono : ∀ a0 k, LeO (laws_FnBalanceOf.f k a0) (laws_FnBalanceOf.f (k + 1) a0) := by
 intro a0 k
 obtain ⟨ih0, ih1, ih2, ih3, ih4, ih5, ih6, ih7⟩ := laws_FnBalanceOf.mono_l k
 unfold laws_FnBalanceOf.f
 repeat' first
   | (with_reducible exact ih0 _ _ _ _ _ _ _ _ _ _)
   | (with_reducible exact ih1 _ _ _ _ _)
   | (with_reducible exact ih2 _ _ _ _ _)
   | (with_reducible exact ih3 _ _ _ _ _ _)
   | (with_reducible exact ih4 _ _ _ _ _ _ _ _)
   | (with_reducible exact ih5 _ _ _ _ _ _ _ _)
   | (with_reducible exact ih6 _ _)
   | (with_reducible exact ih7 _ _ _ _ _ _ _ _ _)
   | (with_reducible exact impl_CounterLoad.mono _ _ _)
   | (with_reducible exact impl_IsEven.mono _ _ _)
   | (with_reducible exact impl_MomentOf.mono _ _)
   | (with_reducible exact laws_f6ints.mono _ _ _)
   | (with_reducible exact spec_CounterLoad.mono _ _ _)
   | (with_reducible exact spec_DrawCounterLoad.mono _ _)
   | (with_reducible exact spec_DrawIsEven.mono _ _)
   | (with_reducible exact spec_IsEven.mono _ _ _)
   | (with_reducible exact spec_MomentOf.mono _ _)
   | (with_reducible exact spec_ValidLoads.mono _ _)
   | (with_reducible exact LeO.refl _)
   | (with_reducible exact LeO.none _)
   | (with_reducible refine LeO.ite ?_ ?_)
   | (with_reducible refine LeO.bind ?_ (fun _ => ?_))
   | exact ih0 _ _ _ _ _ _ _ _ _ _
   | exact ih1 _ _ _ _ _
   | exact ih2 _ _ _ _ _
   | exact ih3 _ _ _ _ _ _
   | exact ih4 _ _ _ _ _ _ _ _
   | exact ih5 _ _ _ _ _ _ _ _
   | exact ih6 _ _
   | exact ih7 _ _ _ _ _ _ _ _ _
   | exact impl_CounterLoad.mono _ _ _
   | exact impl_IsEven.mono _ _ _
   | exact impl_MomentOf.mono _ _
   | exact laws_f6ints.mono _ _ _
   | exact spec_CounterLoad.mono _ _ _
   | exact spec_DrawCounterLoad.mono _ _
   | exact spec_DrawIsEven.mono _ _
   | exact spec_IsEven.mono _ _ _
   | exact spec_MomentOf.mono _ _
   | exact spec_ValidLoads.mono _ _
   | exact LeO.none _
   | refine LeO.ite ?_ ?_
   | refine LeO.bind ?_ (fun _ => ?_)
def laws_FnBalanceOf.T27 : Bool × List (List Nat × List Nat) := (true, [([], []), ([], []), ([0, 1], [0, 1]), ([], []), ([], []), ([], []), ([4, 5], [4, 5]), ([6], [6]), ([3, 7], [3, 7]), ([8], [8]), ([2, 9, 2], [2, 9]), ([10, 10, 0, 1, 2, 3, 4, 5, 6, 7, 8, 9, 10], [10])])
def laws_FnBalanceOf.B27 : List Nat := [0, 0, 3, 0, 0, 0, 48, 112, 248, 504, 1023, 2047]
theorem laws_FnBalanceOf.tab27 : rtab .any (opsOf Try.f14 27) = laws_FnBalanceOf.T27 := by kernel_rfl
theorem laws_FnBalanceOf.bits27 : waitsOk laws_FnBalanceOf.T27.2 laws_FnBalanceOf.B27 = true := by kernel_rfl
def laws_FnBalanceOf.T31 : Bool × List (List Nat × List Nat) := (true, [([], []), ([0], [0]), ([1], [1]), ([2], [2]), ([], []), ([4], [4]), ([5], [5]), ([6, 3], [6]), ([3, 7], [3, 7]), ([], []), ([9], [9]), ([10], [10]), ([11, 7], [11]), ([8, 12], [8, 12]), ([13, 12, 0, 1, 2, 3, 4, 5, 6, 7, 8, 9, 10, 11, 12, 13], [13])])
def laws_FnBalanceOf.B31 : List Nat := [0, 1, 3, 7, 0, 16, 48, 127, 255, 0, 512, 1536, 3839, 8191, 16383]
theorem laws_FnBalanceOf.tab31 : rtab .any (opsOf Try.f14 31) = laws_FnBalanceOf.T31 := by kernel_rfl
theorem laws_FnBalanceOf.bits31 : waitsOk laws_FnBalanceOf.T31.2 laws_FnBalanceOf.B31 = true := by kernel_rfl
def laws_FnBalanceOf.T38 : Bool × List (List Nat × List Nat) := (true, [([], []), ([], []), ([0, 1], [0, 1]), ([2], [2]), ([], []), ([4], [4]), ([5], [5]), ([3, 6], [3, 6])])
def laws_FnBalanceOf.B38 : List Nat := [0, 0, 3, 7, 0, 16, 48, 127]
theorem laws_FnBalanceOf.tab38 : rtab .any (opsOf Try.f14 38) = laws_FnBalanceOf.T38 := by kernel_rfl
theorem laws_FnBalanceOf.bits38 : waitsOk laws_FnBalanceOf.T38.2 laws_FnBalanceOf.B38 = true := by kernel_rfl
set_option maxHeartbeats 8000000 in
set_option maxRecDepth 100000 in
theorem laws_FnBalanceOf.calls (k : Nat) (A0 : Option Addr) (c0 : Nat) (l0 : List Int) (r : Bool) (w : World) (hr0 : Kd.C (Kd.int .u8) w A0 l0.length l0) (hc0 : l0.length ≤ c0) (h : laws_FnBalanceOf.f k l0 = some r) :
  Calls Try.prog 14 #[.slice A0 l0.length c0] w fun e w' => e = .returned (.bool r) ∧ Below w.heap.size w w' := by
 have hu62 := Try.underlying62
 have hu64 := Try.underlying64
 have HR0 := aa hr0
 have HC0 := aa hc0
 clear hr0 hc0
 have HB := aa (Below.refl w.heap.size w)
 have H : ((laws_f6big.f l0).bind fun t382 => (if t382 = true then (some true) else ((spec_DrawCounterLoad.f k l0).bind fun bt383 => ((impl_CounterLoad.f k bt383.1 bt383.2).bind fun bt389 => ((spec_CounterLoad.f k bt383.1 bt383.2).bind fun bt392 => ((impl_MomentOf.f k bt383.1).bind fun bt395 => ((spec_MomentOf.f k bt383.1).bind fun bt399 => ((spec_DrawIsEven.f k l0).bind fun bt403 => ((impl_IsEven.f k bt403.1 bt403.2).bind fun bt407 => ((spec_IsEven.f k bt403.1 bt403.2).bind fun bt409 => (if bt389.2.2 = bt392.2.2 then (if bt389.1 = bt392.1 then (if bt389.2.1 = bt392.2.1 then (if bt395.2 = bt399.2 then ((laws_f6ints.f k bt395.1 bt399.1).bind fun t411 => (if t411 = true then (if bt407.2 = bt409.2 then (if (bt407.1 != bt409.1) = true then (laws_FnBalanceOf.j0 k bt383.1 bt383.2 bt389.2.2 bt392.1 bt392.2.1 bt403.1 bt403.2 bt407.2 bt409.1 true) else ((impl_ValidLoads.f bt383.1).bind fun t412 => ((spec_ValidLoads.f k bt383.1).bind fun t413 => (laws_FnBalanceOf.j0 k bt383.1 bt383.2 bt389.2.2 bt392.1 bt392.2.1 bt403.1 bt403.2 bt407.2 bt409.1 (t412 != t413))))) else (laws_FnBalanceOf.j0 k bt383.1 bt383.2 bt389.2.2 bt392.1 bt392.2.1 bt403.1 bt403.2 bt407.2 bt409.1 true)) else (laws_FnBalanceOf.j0 k bt383.1 bt383.2 bt389.2.2 bt392.1 bt392.2.1 bt403.1 bt403.2 bt407.2 bt409.1 true))) else (laws_FnBalanceOf.j0 k bt383.1 bt383.2 bt389.2.2 bt392.1 bt392.2.1 bt403.1 bt403.2 bt407.2 bt409.1 true)) else (laws_FnBalanceOf.j0 k bt383.1 bt383.2 bt389.2.2 bt392.1 bt392.2.1 bt403.1 bt403.2 bt407.2 bt409.1 true)) else (laws_FnBalanceOf.j0 k bt383.1 bt383.2 bt389.2.2 bt392.1 bt392.2.1 bt403.1 bt403.2 bt407.2 bt409.1 true)) else (laws_FnBalanceOf.j0 k bt383.1 bt383.2 bt389.2.2 bt392.1 bt392.2.1 bt403.1 bt403.2 bt407.2 bt409.1 true)))))))))))) = some r := h
 clear h
 replace H := bl.mp H
 obtain ⟨t382, A20, H⟩ := H
 (try dsimp only at H)
 have A2 := aa A20
 clear A20
 by_cases c3 : t382 = true
 ·subst c3
  have H1 : (some true) = some r := by rw [if_pos rfl] at H; exact H
  clear H
  have H := H1
  clear H1
  obtain rfl := Option.some.inj H
  go_enter Try.func14, Try.ntmps14
  go_wp2_with (first | ((with_reducible refine gate_callee (f := 30) rfl ?_); refine goesL_ (some 32) rfl rfl Try.func30 (by kernel_rfl) rfl #[.slice A0 l0.length c0] rfl (by (try simp only [List.map_toArray, List.map_cons, List.map_nil]); first | done | rfl | (simp only [List.length_drop, List.length_take]; rfl)) ?_; (with_reducible refine (laws_f6big.calls _ _ l0 true _ ?side1 ?side2 A2.out).mono ?_); (case side1 => repeat (first | exact HR0.out | (with_reducible refine ay ?_ _) | (with_reducible refine az ?_ _) | (with_reducible refine ba ?_))); (case side2 => exact HC0.out); rintro e w' ⟨rfl, ⟨nd, rfl⟩⟩; refine ⟨_, rfl, ?_⟩))
  go_ret
  exact ⟨by first | rfl | (simp [errW_none, errW_some] <;> rfl) | (simp [*, errW_none, errW_some] <;> rfl), by repeat (first | (with_reducible first | exact HB.out | apply ae | apply ab | apply ac) | exact HB.out)⟩
 ·replace c3 := Bool.eq_false_iff.mpr c3
  subst c3
  have H1 := H; rw [if_neg (show ¬ (false = true) by decide)] at H1
  clear H
  have H := H1
  clear H1
  replace H := bl.mp H
  obtain ⟨⟨t383, t384⟩, A40, H⟩ := H
  (try dsimp only at H)
  have A4 := aa A40
  clear A40
  replace H := bl.mp H
  obtain ⟨⟨t389, t390, t391⟩, A50, H⟩ := H
  (try dsimp only at H)
  have A5 := aa A50
  clear A50
  replace H := bl.mp H
  obtain ⟨⟨t392, t393, t394⟩, A60, H⟩ := H
  (try dsimp only at H)
  have A6 := aa A60
  clear A60
  replace H := bl.mp H
  obtain ⟨⟨t395, t396⟩, A70, H⟩ := H
  (try dsimp only at H)
  have A7 := aa A70
  clear A70
  replace H := bl.mp H
  obtain ⟨⟨t399, t400⟩, A80, H⟩ := H
  (try dsimp only at H)
  have A8 := aa A80
  clear A80
  replace H := bl.mp H
  obtain ⟨⟨t403, t404⟩, A90, H⟩ := H
  (try dsimp only at H)
  have A9 := aa A90
  clear A90
  replace H := bl.mp H
  obtain ⟨⟨t407, t408⟩, A100, H⟩ := H
  (try dsimp only at H)
  have A10 := aa A100
  clear A100
  replace H := bl.mp H
  obtain ⟨⟨t409, t410⟩, A110, H⟩ := H
  (try dsimp only at H)
  have A11 := aa A110
  clear A110
  have HC12 := aa H
  clear H
  go_enter Try.func14, Try.ntmps14
  go_upto_region 11 with (first | ((with_reducible refine gate_callee (f := 30) rfl ?_); refine goesL_ (some 32) rfl rfl Try.func30 (by kernel_rfl) rfl #[.slice A0 l0.length c0] rfl (by (try simp only [List.map_toArray, List.map_cons, List.map_nil]); first | done | rfl | (simp only [List.length_drop, List.length_take]; rfl)) ?_; (with_reducible refine (laws_f6big.calls _ _ l0 false _ ?side1 ?side2 A2.out).mono ?_); (case side1 => repeat (first | exact HR0.out | (with_reducible refine ay ?_ _) | (with_reducible refine az ?_ _) | (with_reducible refine ba ?_))); (case side2 => exact HC0.out); rintro e w' ⟨rfl, ⟨nd, rfl⟩⟩; refine ⟨_, rfl, ?_⟩) | ((with_reducible refine gate_callee (f := 52) rfl ?_); refine goesL_ (some 35) rfl rfl Try.func52 (by kernel_rfl) rfl #[.slice A0 l0.length c0] rfl (by (try simp only [List.map_toArray, List.map_cons, List.map_nil]); first | done | rfl | (simp only [List.length_drop, List.length_take]; rfl)) ?_; (with_reducible refine (spec_DrawCounterLoad.calls k _ _ l0 t383 t384 _ ?side1 ?side2 A4.out).mono ?_); (case side1 => repeat (first | exact HR0.out | (with_reducible refine ay ?_ _) | (with_reducible refine az ?_ _) | (with_reducible refine ba ?_))); (case side2 => exact HC0.out); rintro e w13 ⟨v385, v387, rfl, ho0, ho1, hb⟩; refine ⟨_, rfl, ?_⟩; have n0_ := aa (bg ho0 (aw (by repeat (first | (with_reducible first | exact HB.out | apply ae | apply ab | apply ac) | exact HB.out)))); have n1_ := aa (bg ho1 (aw (by repeat (first | (with_reducible first | exact HB.out | apply ae | apply ab | apply ac) | exact HB.out)))); have n2_ := aa (ap (by repeat (first | (with_reducible first | exact HB.out | apply ae | apply ab | apply ac) | exact HB.out)) hb); clear HB; have HO386 := n0_; have HO388 := n1_; have HB := n2_; clear n0_ n1_ n2_; (try clear hb); (try clear hb2); (try clear hk); (try clear hi); (try clear ho0); (try clear ho1); obtain ⟨Ao14, co14, eo14⟩ := bc HO386.out; subst eo14; obtain ⟨Ao15, co15, eo15⟩ := bc HO388.out; subst eo15) | ((with_reducible refine gate_callee (f := 50) rfl ?_); refine goesL_ (some 41) rfl rfl Try.func50 (by kernel_rfl) rfl #[.slice Ao14 t383.length co14, .slice Ao15 t384.length co15] rfl (by (try simp only [List.map_toArray, List.map_cons, List.map_nil]); first | done | rfl | (simp only [List.length_drop, List.length_take]; rfl)) ?_; (with_reducible refine (impl_CounterLoad.calls k _ _ t383 _ _ t384 t389 t390 t391 _ ?side1 ?side2 ?side3 ?side4 A5.out).mono ?_); (case side1 => repeat (first | exact (an HO386.out).2.2 | (with_reducible refine ay ?_ _) | (with_reducible refine az ?_ _) | (with_reducible refine ba ?_))); (case side2 => exact (an HO386.out).2.1); (case side3 => repeat (first | exact (an HO388.out).2.2 | (with_reducible refine ay ?_ _) | (with_reducible refine az ?_ _) | (with_reducible refine ba ?_))); (case side4 => exact (an HO388.out).2.1); rintro e w16 ⟨rfl, hb⟩; refine ⟨_, rfl, ?_⟩; have n0_ := aa (ax (by (with_reducible repeat (first | apply af | apply ag | apply ah)); exact HO386.out) hb); have n1_ := aa (ax (by (with_reducible repeat (first | apply af | apply ag | apply ah)); exact HO388.out) hb); have n2_ := aa (ap (by repeat (first | (with_reducible first | exact HB.out | apply ae | apply ab | apply ac) | exact HB.out)) hb); clear HO386; clear HO388; clear HB; have HO386 := n0_; have HO388 := n1_; have HB := n2_; clear n0_ n1_ n2_; (try clear hb); (try clear hb2); (try clear hk); (try clear hi)) | ((with_reducible refine gate_callee (f := 48) rfl ?_); refine goesL_ (some 48) rfl rfl Try.func48 (by kernel_rfl) rfl #[.slice Ao14 t383.length co14, .slice Ao15 t384.length co15] rfl (by (try simp only [List.map_toArray, List.map_cons, List.map_nil]); first | done | rfl | (simp only [List.length_drop, List.length_take]; rfl)) ?_; (with_reducible refine (spec_CounterLoad.calls k _ _ t383 _ _ t384 t392 t393 t394 _ ?side1 ?side2 ?side3 ?side4 A6.out).mono ?_); (case side1 => repeat (first | exact (an HO386.out).2.2 | (with_reducible refine ay ?_ _) | (with_reducible refine az ?_ _) | (with_reducible refine ba ?_))); (case side2 => exact (an HO386.out).2.1); (case side3 => repeat (first | exact (an HO388.out).2.2 | (with_reducible refine ay ?_ _) | (with_reducible refine az ?_ _) | (with_reducible refine ba ?_))); (case side4 => exact (an HO388.out).2.1); rintro e w17 ⟨rfl, hb⟩; refine ⟨_, rfl, ?_⟩; have n0_ := aa (ax (by (with_reducible repeat (first | apply af | apply ag | apply ah)); exact HO386.out) hb); have n1_ := aa (ax (by (with_reducible repeat (first | apply af | apply ag | apply ah)); exact HO388.out) hb); have n2_ := aa (ap (by repeat (first | (with_reducible first | exact HB.out | apply ae | apply ab | apply ac) | exact HB.out)) hb); clear HO386; clear HO388; clear HB; have HO386 := n0_; have HO388 := n1_; have HB := n2_; clear n0_ n1_ n2_; (try clear hb); (try clear hb2); (try clear hk); (try clear hi)) | ((with_reducible refine gate_callee (f := 43) rfl ?_); refine goesL_ (some 54) rfl rfl Try.func43 (by kernel_rfl) rfl #[.slice Ao14 t383.length co14] rfl (by (try simp only [List.map_toArray, List.map_cons, List.map_nil]); first | done | rfl | (simp only [List.length_drop, List.length_take]; rfl)) ?_; (with_reducible refine (impl_MomentOf.calls k _ _ t383 t395 t396 _ ?side1 ?side2 A7.out).mono ?_); (case side1 => repeat (first | exact (an HO386.out).2.2 | (with_reducible refine ay ?_ _) | (with_reducible refine az ?_ _) | (with_reducible refine ba ?_))); (case side2 => exact (an HO386.out).2.1); rintro e w18 ⟨v397, rfl, ho0, hb⟩; refine ⟨_, rfl, ?_⟩; have n0_ := aa (ax (by (with_reducible repeat (first | apply af | apply ag | apply ah)); exact HO386.out) hb); have n1_ := aa (ax (by (with_reducible repeat (first | apply af | apply ag | apply ah)); exact HO388.out) hb); have n2_ := aa (bg ho0 (aw (by repeat (first | (with_reducible first | exact HB.out | apply ae | apply ab | apply ac) | exact HB.out)))); have n3_ := aa (ap (by repeat (first | (with_reducible first | exact HB.out | apply ae | apply ab | apply ac) | exact HB.out)) hb); clear HO386; clear HO388; clear HB; have HO386 := n0_; have HO388 := n1_; have HO398 := n2_; have HB := n3_; clear n0_ n1_ n2_ n3_; (try clear hb); (try clear hb2); (try clear hk); (try clear hi); (try clear ho0)) | ((with_reducible refine gate_callee (f := 42) rfl ?_); refine goesL_ (some 59) rfl rfl Try.func42 (by kernel_rfl) rfl #[.slice Ao14 t383.length co14] rfl (by (try simp only [List.map_toArray, List.map_cons, List.map_nil]); first | done | rfl | (simp only [List.length_drop, List.length_take]; rfl)) ?_; (with_reducible refine (spec_MomentOf.calls k _ _ t383 t399 t400 _ ?side1 ?side2 A8.out).mono ?_); (case side1 => repeat (first | exact (an HO386.out).2.2 | (with_reducible refine ay ?_ _) | (with_reducible refine az ?_ _) | (with_reducible refine ba ?_))); (case side2 => exact (an HO386.out).2.1); rintro e w19 ⟨v401, rfl, ho0, hb⟩; refine ⟨_, rfl, ?_⟩; have n0_ := aa (ax (by (with_reducible repeat (first | apply af | apply ag | apply ah)); exact HO386.out) hb); have n1_ := aa (ax (by (with_reducible repeat (first | apply af | apply ag | apply ah)); exact HO388.out) hb); have n2_ := aa (ax (by (with_reducible repeat (first | apply af | apply ag | apply ah)); exact HO398.out) hb); have n3_ := aa (bg ho0 (aw (by repeat (first | (with_reducible first | exact HB.out | apply ae | apply ab | apply ac) | exact HB.out)))); have n4_ := aa (ap (by repeat (first | (with_reducible first | exact HB.out | apply ae | apply ab | apply ac) | exact HB.out)) hb); clear HO386; clear HO388; clear HO398; clear HB; have HO386 := n0_; have HO388 := n1_; have HO398 := n2_; have HO402 := n3_; have HB := n4_; clear n0_ n1_ n2_ n3_ n4_; (try clear hb); (try clear hb2); (try clear hk); (try clear hi); (try clear ho0)) | ((with_reducible refine gate_callee (f := 53) rfl ?_); refine goesL_ (some 64) rfl rfl Try.func53 (by kernel_rfl) rfl #[.slice A0 l0.length c0] rfl (by (try simp only [List.map_toArray, List.map_cons, List.map_nil]); first | done | rfl | (simp only [List.length_drop, List.length_take]; rfl)) ?_; (with_reducible refine (spec_DrawIsEven.calls k _ _ l0 t403 t404 _ ?side1 ?side2 A9.out).mono ?_); (case side1 => repeat (first | exact (Kd.C_below HR0.out HB.out) | (with_reducible refine ay ?_ _) | (with_reducible refine az ?_ _) | (with_reducible refine ba ?_))); (case side2 => exact HC0.out); rintro e w20 ⟨v405, rfl, ho0, hb⟩; refine ⟨_, rfl, ?_⟩; have n0_ := aa (Kd.R_elder' (by (with_reducible repeat (first | apply af | apply ag | apply ah)); exact HO386.out) (Kd.R_base ho0) hb); have n1_ := aa (ax (by (with_reducible repeat (first | apply af | apply ag | apply ah)); exact HO388.out) hb); have n2_ := aa (ax (by (with_reducible repeat (first | apply af | apply ag | apply ah)); exact HO398.out) hb); have n3_ := aa (ax (by (with_reducible repeat (first | apply af | apply ag | apply ah)); exact HO402.out) hb); have n4_ := aa (bg (Kd.R_new' ho0 (Kd.R_lt (by (with_reducible repeat (first | apply af | apply ag | apply ah)); exact HO386.out))) (aw (by repeat (first | (with_reducible first | exact HB.out | apply ae | apply ab | apply ac) | exact HB.out)))); have n5_ := aa (ap (by repeat (first | (with_reducible first | exact HB.out | apply ae | apply ab | apply ac) | exact HB.out)) hb); clear HO386; clear HO388; clear HO398; clear HO402; clear HB; have HO386 := n0_; have HO388 := n1_; have HO398 := n2_; have HO402 := n3_; have HO406 := n4_; have HB := n5_; clear n0_ n1_ n2_ n3_ n4_ n5_; (try clear hb); (try clear hb2); (try clear hk); (try clear hi); (try clear ho0); obtain ⟨Ao21, co21, eo21⟩ := bc HO406.out; subst eo21) | ((with_reducible refine gate_callee (f := 46) rfl ?_); refine goesL_ (some 70) rfl rfl Try.func46 (by kernel_rfl) rfl #[.slice Ao21 t403.length co21, .int .i64 t404] rfl (by (try simp only [List.map_toArray, List.map_cons, List.map_nil]); first | done | rfl | (simp only [List.length_drop, List.length_take]; rfl)) ?_; (with_reducible refine (impl_IsEven.calls k _ _ t403 t404 t407 t408 _ ?side1 ?side2 A10.out).mono ?_); (case side1 => repeat (first | exact (an HO406.out).2.2 | (with_reducible refine ay ?_ _) | (with_reducible refine az ?_ _) | (with_reducible refine ba ?_))); (case side2 => exact (an HO406.out).2.1); rintro e w22 ⟨rfl, hb⟩; refine ⟨_, rfl, ?_⟩; have n0_ := aa (ax (by (with_reducible repeat (first | apply af | apply ag | apply ah)); exact HO386.out) hb); have n1_ := aa (ax (by (with_reducible repeat (first | apply af | apply ag | apply ah)); exact HO388.out) hb); have n2_ := aa (ax (by (with_reducible repeat (first | apply af | apply ag | apply ah)); exact HO398.out) hb); have n3_ := aa (ax (by (with_reducible repeat (first | apply af | apply ag | apply ah)); exact HO402.out) hb); have n4_ := aa (ax (by (with_reducible repeat (first | apply af | apply ag | apply ah)); exact HO406.out) hb); have n5_ := aa (ap (by repeat (first | (with_reducible first | exact HB.out | apply ae | apply ab | apply ac) | exact HB.out)) hb); clear HO386; clear HO388; clear HO398; clear HO402; clear HO406; clear HB; have HO386 := n0_; have HO388 := n1_; have HO398 := n2_; have HO402 := n3_; have HO406 := n4_; have HB := n5_; clear n0_ n1_ n2_ n3_ n4_ n5_; (try clear hb); (try clear hb2); (try clear hk); (try clear hi)) | ((with_reducible refine gate_callee (f := 45) rfl ?_); refine goesL_ (some 76) rfl rfl Try.func45 (by kernel_rfl) rfl #[.slice Ao21 t403.length co21, .int .i64 t404] rfl (by (try simp only [List.map_toArray, List.map_cons, List.map_nil]); first | done | rfl | (simp only [List.length_drop, List.length_take]; rfl)) ?_; (with_reducible refine (spec_IsEven.calls k _ _ t403 t404 t409 t410 _ ?side1 ?side2 A11.out).mono ?_); (case side1 => repeat (first | exact (an HO406.out).2.2 | (with_reducible refine ay ?_ _) | (with_reducible refine az ?_ _) | (with_reducible refine ba ?_))); (case side2 => exact (an HO406.out).2.1); rintro e w23 ⟨rfl, hb⟩; refine ⟨_, rfl, ?_⟩; have n0_ := aa (ax (by (with_reducible repeat (first | apply af | apply ag | apply ah)); exact HO386.out) hb); have n1_ := aa (ax (by (with_reducible repeat (first | apply af | apply ag | apply ah)); exact HO388.out) hb); have n2_ := aa (ax (by (with_reducible repeat (first | apply af | apply ag | apply ah)); exact HO398.out) hb); have n3_ := aa (ax (by (with_reducible repeat (first | apply af | apply ag | apply ah)); exact HO402.out) hb); have n4_ := aa (ax (by (with_reducible repeat (first | apply af | apply ag | apply ah)); exact HO406.out) hb); have n5_ := aa (ap (by repeat (first | (with_reducible first | exact HB.out | apply ae | apply ab | apply ac) | exact HB.out)) hb); clear HO386; clear HO388; clear HO398; clear HO402; clear HO406; clear HB; have HO386 := n0_; have HO388 := n1_; have HO398 := n2_; have HO402 := n3_; have HO406 := n4_; have HB := n5_; clear n0_ n1_ n2_ n3_ n4_ n5_; (try clear hb); (try clear hb2); (try clear hk); (try clear hi)))
  (try simp only [Act.put, List.setIfInBounds_toArray, List.set_cons_zero, List.set_cons_succ])
  go_cut [119] (fun v119 wc => ∃ (kq : Nat) (x119_11 : Bool), v119 = .bool x119_11 ∧ Aside0 (laws_FnBalanceOf.j0 kq t383 t384 t391 t392 t393 t403 t404 t408 t409 x119_11 = some r) ∧ Aside0 (kq ≤ k) ∧ Aside0 (Kd.R k64 64 wc w.heap.size (fun k_ => some k_ ≠ ((.slice Ao21 t403.length co21) : Value).ownBlock) (.slice Ao14 t383.length co14) t383) ∧ Aside0 (Kd.R k62 62 wc w.heap.size (fun _ => True) (.slice Ao15 t384.length co15) t384) ∧ Aside0 (Kd.R k64 64 wc w.heap.size (fun k_ => some k_ ≠ ((.slice Ao14 t383.length co14) : Value).ownBlock) (.slice Ao21 t403.length co21) t403) ∧ Aside0 (Below w.heap.size w wc))
  case first => as_aux_lemma =>
   have H := HC12.out
   clear HC12
   by_cases c24 : t391 = t394
   ·rw [if_pos c24] at H
    have c24b0 : (t391 == t394) = true := beq_iff_eq.mpr c24
    have c24b1 : (t391 != t394) = false := bne_eq_false_iff_eq.mpr c24
    clear c24
    (first | rw [c24b0] | (simp only [i64_w, i32_w]; rw [c24b0]) | skip)
    by_cases c25 : t389 = t392
    ·rw [if_pos c25] at H
     have c25b0 : (t389 == t392) = true := beq_iff_eq.mpr c25
     have c25b1 : (t389 != t392) = false := bne_eq_false_iff_eq.mpr c25
     clear c25
     by_cases c26 : t390 = t393
     ·rw [if_pos c26] at H
      have c26b0 : (t390 == t393) = true := beq_iff_eq.mpr c26
      have c26b1 : (t390 != t393) = false := bne_eq_false_iff_eq.mpr c26
      clear c26
      by_cases c27 : t396 = t400
      ·rw [if_pos c27] at H
       have c27b0 : (t396 == t400) = true := beq_iff_eq.mpr c27
       have c27b1 : (t396 != t400) = false := bne_eq_false_iff_eq.mpr c27
       clear c27
       replace H := bl.mp H
       obtain ⟨t411, A280, H⟩ := H
       (try dsimp only at H)
       have A28 := aa A280
       clear A280
       by_cases c29 : t411 = true
       ·subst c29
        have H1 := H; rw [if_pos rfl] at H1
        clear H
        have H := H1
        clear H1
        by_cases c30 : t408 = t410
        ·rw [if_pos c30] at H
         have c30b0 : (t408 == t410) = true := beq_iff_eq.mpr c30
         have c30b1 : (t408 != t410) = false := bne_eq_false_iff_eq.mpr c30
         clear c30
         by_cases c31 : (t407 != t409) = true
         ·rw [if_pos c31] at H
          have c31b0 : (t407 != t409) = true := c31
          (try (have c31b1 : decide (t407 = t409) = false := by simpa using c31))
          (try (have c31b2 : (t407 == t409) = false := by simpa using c31))
          (try (have c31b3 : ¬ (t407 = t409) := by simpa using c31))
          clear c31
          have H' := aa H
          clear H
          obtain ⟨Ao32, co32, eo32⟩ := bc HO398.out
          subst eo32
          obtain ⟨Ao33, co33, eo33⟩ := bc HO402.out
          subst eo33
          go_wp2_with (first | (go_at_call 35; (with_reducible refine (laws_f6ints.calls k _ _ t395 _ _ t399 true _ ?side1 ?side2 ?side3 ?side4 A28.out).mono ?_); (case side1 => repeat (first | exact (an HO398.out).2.2 | (with_reducible refine ay ?_ _) | (with_reducible refine az ?_ _) | (with_reducible refine ba ?_))); (case side2 => exact (an HO398.out).2.1); (case side3 => repeat (first | exact (an HO402.out).2.2 | (with_reducible refine ay ?_ _) | (with_reducible refine az ?_ _) | (with_reducible refine ba ?_))); (case side4 => exact (an HO402.out).2.1); rintro e w' ⟨rfl, ⟨nd, rfl⟩⟩))
          go_meet
          case rel => exact ⟨_, (true), (by first | rfl | (simp; done) | (simp [*]; done)), H', ⟨by first | omega | exact Nat.le_refl _⟩, ⟨by (with_reducible repeat (first | apply af | apply ag | apply ah)); exact av HO386.out (fun _ hk => hk.2)⟩, ⟨by (with_reducible repeat (first | apply af | apply ag | apply ah)); exact HO388.out⟩, ⟨by (with_reducible repeat (first | apply af | apply ag | apply ah)); exact av HO406.out (fun _ hk => hk.2)⟩, ⟨by repeat (first | (with_reducible first | exact HB.out | apply ae | apply ab | apply ac) | exact HB.out)⟩⟩
         ·rw [if_neg c31] at H
          have c31b0 : (t407 != t409) = false := by simpa using c31
          (try (have c31b1 : decide (t407 = t409) = true := by simpa using c31))
          (try (have c31b2 : (t407 == t409) = true := by simpa using c31))
          clear c31
          replace H := bl.mp H
          obtain ⟨t412, A340, H⟩ := H
          (try dsimp only at H)
          have A34 := aa A340
          clear A340
          replace H := bl.mp H
          obtain ⟨t413, A350, H⟩ := H
          (try dsimp only at H)
          have A35 := aa A350
          clear A350
          have H' := aa H
          clear H
          obtain ⟨Ao36, co36, eo36⟩ := bc HO398.out
          subst eo36
          obtain ⟨Ao37, co37, eo37⟩ := bc HO402.out
          subst eo37
          go_wp2_with (first | (go_at_call 35; (with_reducible refine (laws_f6ints.calls k _ _ t395 _ _ t399 true _ ?side1 ?side2 ?side3 ?side4 A28.out).mono ?_); (case side1 => repeat (first | exact (an HO398.out).2.2 | (with_reducible refine ay ?_ _) | (with_reducible refine az ?_ _) | (with_reducible refine ba ?_))); (case side2 => exact (an HO398.out).2.1); (case side3 => repeat (first | exact (an HO402.out).2.2 | (with_reducible refine ay ?_ _) | (with_reducible refine az ?_ _) | (with_reducible refine ba ?_))); (case side4 => exact (an HO402.out).2.1); rintro e w' ⟨rfl, ⟨nd, rfl⟩⟩) | (go_at_call 40; (with_reducible refine (impl_ValidLoads.calls _ _ t383 t412 _ ?side1 ?side2 A34.out).mono ?_); (case side1 => repeat (first | exact (an HO386.out).2.2 | (with_reducible refine ay ?_ _) | (with_reducible refine az ?_ _) | (with_reducible refine ba ?_))); (case side2 => exact (an HO386.out).2.1); rintro e w38 ⟨rfl, hb⟩; have n0_ := aa (ax (by (with_reducible repeat (first | apply af | apply ag | apply ah)); exact HO386.out) hb); have n1_ := aa (ax (by (with_reducible repeat (first | apply af | apply ag | apply ah)); exact HO388.out) hb); have n2_ := aa (ax (by (with_reducible repeat (first | apply af | apply ag | apply ah)); exact HO398.out) hb); have n3_ := aa (ax (by (with_reducible repeat (first | apply af | apply ag | apply ah)); exact HO402.out) hb); have n4_ := aa (ax (by (with_reducible repeat (first | apply af | apply ag | apply ah)); exact HO406.out) hb); have n5_ := aa (ap (by repeat (first | (with_reducible first | exact HB.out | apply ae | apply ab | apply ac) | exact HB.out)) hb); clear HO386; clear HO388; clear HO398; clear HO402; clear HO406; clear HB; have HO386 := n0_; have HO388 := n1_; have HO398 := n2_; have HO402 := n3_; have HO406 := n4_; have HB := n5_; clear n0_ n1_ n2_ n3_ n4_ n5_; (try clear hb); (try clear hb2); (try clear hk); (try clear hi)) | (go_at_call 38; (with_reducible refine (spec_ValidLoads.calls k _ _ t383 t413 _ ?side1 ?side2 A35.out).mono ?_); (case side1 => repeat (first | exact (an HO386.out).2.2 | (with_reducible refine ay ?_ _) | (with_reducible refine az ?_ _) | (with_reducible refine ba ?_))); (case side2 => exact (an HO386.out).2.1); rintro e w39 ⟨rfl, hb⟩; have n0_ := aa (ax (by (with_reducible repeat (first | apply af | apply ag | apply ah)); exact HO386.out) hb); have n1_ := aa (ax (by (with_reducible repeat (first | apply af | apply ag | apply ah)); exact HO388.out) hb); have n2_ := aa (ax (by (with_reducible repeat (first | apply af | apply ag | apply ah)); exact HO398.out) hb); have n3_ := aa (ax (by (with_reducible repeat (first | apply af | apply ag | apply ah)); exact HO402.out) hb); have n4_ := aa (ax (by (with_reducible repeat (first | apply af | apply ag | apply ah)); exact HO406.out) hb); have n5_ := aa (ap (by repeat (first | (with_reducible first | exact HB.out | apply ae | apply ab | apply ac) | exact HB.out)) hb); clear HO386; clear HO388; clear HO398; clear HO402; clear HO406; clear HB; have HO386 := n0_; have HO388 := n1_; have HO398 := n2_; have HO402 := n3_; have HO406 := n4_; have HB := n5_; clear n0_ n1_ n2_ n3_ n4_ n5_; (try clear hb); (try clear hb2); (try clear hk); (try clear hi)))
          go_meet
          case rel => exact ⟨_, ((t412 != t413)), (by first | rfl | (simp; done) | (simp [*]; done)), H', ⟨by first | omega | exact Nat.le_refl _⟩, ⟨by (with_reducible repeat (first | apply af | apply ag | apply ah)); exact av HO386.out (fun _ hk => hk.2)⟩, ⟨by (with_reducible repeat (first | apply af | apply ag | apply ah)); exact HO388.out⟩, ⟨by (with_reducible repeat (first | apply af | apply ag | apply ah)); exact av HO406.out (fun _ hk => hk.2)⟩, ⟨by repeat (first | (with_reducible first | exact HB.out | apply ae | apply ab | apply ac) | exact HB.out)⟩⟩
        ·rw [if_neg c30] at H
         have c30b0 : (t408 == t410) = false := beq_eq_false_iff_ne.mpr c30
         have c30b1 : (t408 != t410) = true := bne_iff_ne.mpr c30
         have H' := aa H
         clear H
         obtain ⟨Ao40, co40, eo40⟩ := bc HO398.out
         subst eo40
         obtain ⟨Ao41, co41, eo41⟩ := bc HO402.out
         subst eo41
         go_wp2_with (first | (go_at_call 35; (with_reducible refine (laws_f6ints.calls k _ _ t395 _ _ t399 true _ ?side1 ?side2 ?side3 ?side4 A28.out).mono ?_); (case side1 => repeat (first | exact (an HO398.out).2.2 | (with_reducible refine ay ?_ _) | (with_reducible refine az ?_ _) | (with_reducible refine ba ?_))); (case side2 => exact (an HO398.out).2.1); (case side3 => repeat (first | exact (an HO402.out).2.2 | (with_reducible refine ay ?_ _) | (with_reducible refine az ?_ _) | (with_reducible refine ba ?_))); (case side4 => exact (an HO402.out).2.1); rintro e w' ⟨rfl, ⟨nd, rfl⟩⟩))
         go_meet
         case rel => exact ⟨_, (true), (by first | rfl | (simp; done) | (simp [*]; done)), H', ⟨by first | omega | exact Nat.le_refl _⟩, ⟨by (with_reducible repeat (first | apply af | apply ag | apply ah)); exact av HO386.out (fun _ hk => hk.2)⟩, ⟨by (with_reducible repeat (first | apply af | apply ag | apply ah)); exact HO388.out⟩, ⟨by (with_reducible repeat (first | apply af | apply ag | apply ah)); exact av HO406.out (fun _ hk => hk.2)⟩, ⟨by repeat (first | (with_reducible first | exact HB.out | apply ae | apply ab | apply ac) | exact HB.out)⟩⟩
       ·replace c29 := Bool.eq_false_iff.mpr c29
        subst c29
        have H1 := H; rw [if_neg (show ¬ (false = true) by decide)] at H1
        clear H
        have H := H1
        clear H1
        have H' := aa H
        clear H
        obtain ⟨Ao42, co42, eo42⟩ := bc HO398.out
        subst eo42
        obtain ⟨Ao43, co43, eo43⟩ := bc HO402.out
        subst eo43
        go_wp2_with (first | (go_at_call 35; (with_reducible refine (laws_f6ints.calls k _ _ t395 _ _ t399 false _ ?side1 ?side2 ?side3 ?side4 A28.out).mono ?_); (case side1 => repeat (first | exact (an HO398.out).2.2 | (with_reducible refine ay ?_ _) | (with_reducible refine az ?_ _) | (with_reducible refine ba ?_))); (case side2 => exact (an HO398.out).2.1); (case side3 => repeat (first | exact (an HO402.out).2.2 | (with_reducible refine ay ?_ _) | (with_reducible refine az ?_ _) | (with_reducible refine ba ?_))); (case side4 => exact (an HO402.out).2.1); rintro e w' ⟨rfl, ⟨nd, rfl⟩⟩))
        go_meet
        case rel => exact ⟨_, (true), (by first | rfl | (simp; done) | (simp [*]; done)), H', ⟨by first | omega | exact Nat.le_refl _⟩, ⟨by (with_reducible repeat (first | apply af | apply ag | apply ah)); exact av HO386.out (fun _ hk => hk.2)⟩, ⟨by (with_reducible repeat (first | apply af | apply ag | apply ah)); exact HO388.out⟩, ⟨by (with_reducible repeat (first | apply af | apply ag | apply ah)); exact av HO406.out (fun _ hk => hk.2)⟩, ⟨by repeat (first | (with_reducible first | exact HB.out | apply ae | apply ab | apply ac) | exact HB.out)⟩⟩
      ·rw [if_neg c27] at H
       have c27b0 : (t396 == t400) = false := beq_eq_false_iff_ne.mpr c27
       have c27b1 : (t396 != t400) = true := bne_iff_ne.mpr c27
       have H' := aa H
       clear H
       go_wp2
       go_meet
       case rel => exact ⟨_, (true), (by first | rfl | (simp; done) | (simp [*]; done)), H', ⟨by first | omega | exact Nat.le_refl _⟩, ⟨by (with_reducible repeat (first | apply af | apply ag | apply ah)); exact av HO386.out (fun _ hk => hk.2)⟩, ⟨by (with_reducible repeat (first | apply af | apply ag | apply ah)); exact HO388.out⟩, ⟨by (with_reducible repeat (first | apply af | apply ag | apply ah)); exact av HO406.out (fun _ hk => hk.2)⟩, ⟨by repeat (first | (with_reducible first | exact HB.out | apply ae | apply ab | apply ac) | exact HB.out)⟩⟩
     ·rw [if_neg c26] at H
      have c26b0 : (t390 == t393) = false := beq_eq_false_iff_ne.mpr c26
      have c26b1 : (t390 != t393) = true := bne_iff_ne.mpr c26
      have H' := aa H
      clear H
      go_wp2
      go_meet
      case rel => exact ⟨_, (true), (by first | rfl | (simp; done) | (simp [*]; done)), H', ⟨by first | omega | exact Nat.le_refl _⟩, ⟨by (with_reducible repeat (first | apply af | apply ag | apply ah)); exact av HO386.out (fun _ hk => hk.2)⟩, ⟨by (with_reducible repeat (first | apply af | apply ag | apply ah)); exact HO388.out⟩, ⟨by (with_reducible repeat (first | apply af | apply ag | apply ah)); exact av HO406.out (fun _ hk => hk.2)⟩, ⟨by repeat (first | (with_reducible first | exact HB.out | apply ae | apply ab | apply ac) | exact HB.out)⟩⟩
    ·rw [if_neg c25] at H
     have c25b0 : (t389 == t392) = false := beq_eq_false_iff_ne.mpr c25
     have c25b1 : (t389 != t392) = true := bne_iff_ne.mpr c25
     have H' := aa H
     clear H
     go_wp2
     go_meet
     case rel => exact ⟨_, (true), (by first | rfl | (simp; done) | (simp [*]; done)), H', ⟨by first | omega | exact Nat.le_refl _⟩, ⟨by (with_reducible repeat (first | apply af | apply ag | apply ah)); exact av HO386.out (fun _ hk => hk.2)⟩, ⟨by (with_reducible repeat (first | apply af | apply ag | apply ah)); exact HO388.out⟩, ⟨by (with_reducible repeat (first | apply af | apply ag | apply ah)); exact av HO406.out (fun _ hk => hk.2)⟩, ⟨by repeat (first | (with_reducible first | exact HB.out | apply ae | apply ab | apply ac) | exact HB.out)⟩⟩
   ·rw [if_neg c24] at H
    have c24b0 : (t391 == t394) = false := beq_eq_false_iff_ne.mpr c24
    have c24b1 : (t391 != t394) = true := bne_iff_ne.mpr c24
    (first | rw [c24b0] | (simp only [i64_w, i32_w]; rw [c24b0]) | skip)
    have H' := aa H
    clear H
    go_wp2
    go_meet
    case rel => exact ⟨_, (true), (by first | rfl | (simp; done) | (simp [*]; done)), H', ⟨by first | omega | exact Nat.le_refl _⟩, ⟨by (with_reducible repeat (first | apply af | apply ag | apply ah)); exact av HO386.out (fun _ hk => hk.2)⟩, ⟨by (with_reducible repeat (first | apply af | apply ag | apply ah)); exact HO388.out⟩, ⟨by (with_reducible repeat (first | apply af | apply ag | apply ah)); exact av HO406.out (fun _ hk => hk.2)⟩, ⟨by repeat (first | (with_reducible first | exact HB.out | apply ae | apply ab | apply ac) | exact HB.out)⟩⟩
  case rest => as_aux_lemma =>
   clear HC12
   try clear c1
   try clear c2
   try clear p2
   try clear c3
   try clear c4
   try clear c5
   try clear c14
   try clear c24
   try clear c24b0
   try clear c24b1
   try clear c25
   try clear c25b0
   try clear c25b1
   try clear c26
   try clear c26b0
   try clear c26b1
   try clear c27
   try clear c27b0
   try clear c27b1
   try clear c29
   try clear c30
   try clear c30b0
   try clear c30b1
   try clear c31
   try clear c31b0
   try clear c31b1
   try clear c31b2
   try clear c42
   try clear c43
   obtain ⟨kq, x119_11, rfl, HA, HJ11, HO_3, HO_4, HO_15, HB⟩ := hcut
   cases kq with
   | zero => exact absurd HA.out (by simp [laws_FnBalanceOf.j0])
   | succ kj11 =>
    have H := HA.out
    clear HA
    simp only [laws_FnBalanceOf.j0] at H
    by_cases c44 : x119_11 = true
    ·subst c44
     have H1 : (some false) = some r := by rw [if_pos rfl] at H; exact H
     clear H
     have H := H1
     clear H1
     obtain rfl := Option.some.inj H
     go_wp2
     go_ret
     exact ⟨by first | rfl | (simp [errW_none, errW_some] <;> rfl) | (simp [*, errW_none, errW_some] <;> rfl), by repeat (first | (with_reducible first | exact HB.out | apply ae | apply ab | apply ac) | exact HB.out)⟩
    ·replace c44 := Bool.eq_false_iff.mpr c44
     subst c44
     have H1 := H; rw [if_neg (show ¬ (false = true) by decide)] at H1
     clear H
     have H := H1
     clear H1
     have HC45 := aa H
     clear H
     go_upto_if 121 with (fail)
     go_cut [] (fun wc => ∃ (kq : Nat), Aside0 (laws_FnBalanceOf.j2 kq t383 t384 t391 t392 t393 = some r) ∧ Aside0 (kq ≤ kj11) ∧ Aside0 (Kd.R k64 64 wc w.heap.size (fun _ => True) (.slice Ao14 t383.length co14) t383) ∧ Aside0 (Kd.R k62 62 wc w.heap.size (fun _ => True) (.slice Ao15 t384.length co15) t384) ∧ Aside0 (Below w.heap.size w wc))
     case first => as_aux_lemma =>
      have H := HC45.out
      clear HC45
      by_cases c46 : t408 = 0
      ·rw [if_pos c46] at H
       have c46b0 : (t408 == 0) = true := beq_iff_eq.mpr c46
       have c46b1 : (t408 != 0) = false := bne_eq_false_iff_eq.mpr c46
       clear c46
       (first | rw [c46b0] | (simp only [i64_w, i32_w]; rw [c46b0]) | skip)
       replace H := bl.mp H
       obtain ⟨⟨t414, t415⟩, A470, H⟩ := H
       (try dsimp only at H)
       have A47 := aa A470
       clear A470
       have HC48 := aa H
       clear H
       go_upto_region 15 with (first | ((with_reducible refine gate_callee (f := 43) rfl ?_); refine goesL_ (some 124) rfl rfl Try.func43 (by kernel_rfl) rfl #[.slice Ao21 t403.length co21] rfl (by (try simp only [List.map_toArray, List.map_cons, List.map_nil]); first | done | rfl | (simp only [List.length_drop, List.length_take]; rfl)) ?_; (with_reducible refine (impl_MomentOf.calls kj11 _ _ t403 t414 t415 _ ?side1 ?side2 A47.out).mono ?_); (case side1 => repeat (first | exact (an HO_15.out).2.2 | (with_reducible refine ay ?_ _) | (with_reducible refine az ?_ _) | (with_reducible refine ba ?_))); (case side2 => exact (an HO_15.out).2.1); rintro e w49 ⟨v416, rfl, ho0, hb⟩; refine ⟨_, rfl, ?_⟩; have n0_ := aa (ax (by (with_reducible repeat (first | apply af | apply ag | apply ah)); exact HO_3.out) hb); have n1_ := aa (ax (by (with_reducible repeat (first | apply af | apply ag | apply ah)); exact HO_4.out) hb); have n2_ := aa (ax (by (with_reducible repeat (first | apply af | apply ag | apply ah)); exact HO_15.out) hb); have n3_ := aa (bg ho0 (aw (by repeat (first | (with_reducible first | exact HB.out | apply ae | apply ab | apply ac) | exact HB.out)))); have n4_ := aa (ap (by repeat (first | (with_reducible first | exact HB.out | apply ae | apply ab | apply ac) | exact HB.out)) hb); clear HO_3; clear HO_4; clear HO_15; clear HB; have HO_3 := n0_; have HO_4 := n1_; have HO_15 := n2_; have HO417 := n3_; have HB := n4_; clear n0_ n1_ n2_ n3_ n4_; (try clear hb); (try clear hb2); (try clear hk); (try clear hi); (try clear ho0)))
       (try simp only [Act.put, List.setIfInBounds_toArray, List.set_cons_zero, List.set_cons_succ])
       go_cut [133] (fun v133 wc => ∃ (kq : Nat) (x133_47 : Bool), v133 = .bool x133_47 ∧ Aside0 (laws_FnBalanceOf.j1 kq t383 t384 t391 t392 t393 t404 t409 t414 x133_47 = some r) ∧ Aside0 (kq ≤ kj11) ∧ Aside0 (Kd.R k64 64 wc w.heap.size (fun _ => True) (.slice Ao14 t383.length co14) t383) ∧ Aside0 (Kd.R k62 62 wc w.heap.size (fun _ => True) (.slice Ao15 t384.length co15) t384) ∧ Aside0 (Kd.R (Kd.int .i64) 81 wc w.heap.size (fun _ => True) v416 t414) ∧ Aside0 (Below w.heap.size w wc))
       case first => as_aux_lemma =>
        have H := HC48.out
        clear HC48
        by_cases c50 : t415 = 0
        ·rw [if_pos c50] at H
         have c50b0 : (t415 == 0) = true := beq_iff_eq.mpr c50
         have c50b1 : (t415 != 0) = false := bne_eq_false_iff_eq.mpr c50
         clear c50
         (first | rw [c50b0] | (simp only [i64_w, i32_w]; rw [c50b0]) | skip)
         have H' := aa H
         clear H
         obtain ⟨Ao51, co51, eo51⟩ := bc HO417.out
         subst eo51
         go_wp2
         go_meet
         case rel => exact ⟨_, (((t414.length : Int) != 3)), (by first | rfl | (simp; done) | (simp [*]; done)), H', ⟨by have := HJ11.out; first | omega | exact Nat.le_refl _⟩, ⟨by (with_reducible repeat (first | apply af | apply ag | apply ah)); exact av HO_3.out (fun _ hk => trivial)⟩, ⟨by (with_reducible repeat (first | apply af | apply ag | apply ah)); exact HO_4.out⟩, ⟨by (with_reducible repeat (first | apply af | apply ag | apply ah)); exact HO417.out⟩, ⟨by repeat (first | (with_reducible first | exact HB.out | apply ae | apply ab | apply ac) | exact HB.out)⟩⟩
        ·rw [if_neg c50] at H
         have c50b0 : (t415 == 0) = false := beq_eq_false_iff_ne.mpr c50
         have c50b1 : (t415 != 0) = true := bne_iff_ne.mpr c50
         (first | rw [c50b0] | (simp only [i64_w, i32_w]; rw [c50b0]) | skip)
         have H' := aa H
         clear H
         go_wp2
         go_meet
         case rel => exact ⟨_, (true), (by first | rfl | (simp; done) | (simp [*]; done)), H', ⟨by have := HJ11.out; first | omega | exact Nat.le_refl _⟩, ⟨by (with_reducible repeat (first | apply af | apply ag | apply ah)); exact av HO_3.out (fun _ hk => trivial)⟩, ⟨by (with_reducible repeat (first | apply af | apply ag | apply ah)); exact HO_4.out⟩, ⟨by (with_reducible repeat (first | apply af | apply ag | apply ah)); exact HO417.out⟩, ⟨by repeat (first | (with_reducible first | exact HB.out | apply ae | apply ab | apply ac) | exact HB.out)⟩⟩
       case rest => as_aux_lemma =>
        clear HC48
        try clear c1
        try clear c2
        try clear p2
        try clear c3
        try clear c4
        try clear c5
        try clear c14
        try clear c24
        try clear c24b0
        try clear c24b1
        try clear c25
        try clear c25b0
        try clear c25b1
        try clear c26
        try clear c26b0
        try clear c26b1
        try clear c27
        try clear c27b0
        try clear c27b1
        try clear c29
        try clear c30
        try clear c30b0
        try clear c30b1
        try clear c31
        try clear c31b0
        try clear c31b1
        try clear c31b2
        try clear c42
        try clear c43
        try clear c44
        try clear c45
        try clear c46
        try clear c46b0
        try clear c46b1
        try clear c48
        try clear c50
        try clear c50b0
        try clear c50b1
        try clear p2
        obtain ⟨kq, x133_47, rfl, HA, HJ47, HO_3, HO_4, HO_21, HB⟩ := hcut
        cases kq with
        | zero => exact absurd HA.out (by simp [laws_FnBalanceOf.j1])
        | succ kj47 =>
         have H := HA.out
         clear HA
         simp only [laws_FnBalanceOf.j1] at H
         by_cases c52 : x133_47 = true
         ·subst c52
          have H1 : (some false) = some r := by rw [if_pos rfl] at H; exact H
          clear H
          have H := H1
          clear H1
          obtain rfl := Option.some.inj H
          go_wp2
          go_ret
          exact ⟨by first | rfl | (simp [errW_none, errW_some] <;> rfl) | (simp [*, errW_none, errW_some] <;> rfl), by repeat (first | (with_reducible first | exact HB.out | apply ae | apply ab | apply ac) | exact HB.out)⟩
         ·replace c52 := Bool.eq_false_iff.mpr c52
          subst c52
          have H1 := H; rw [if_neg (show ¬ (false = true) by decide)] at H1
          clear H
          have H := H1
          clear H1
          by_cases c53 : 0 < (t414.length : Int)
          ·rw [if_pos c53] at H
           have c53b0 : decide (0 < (t414.length : Int)) = true := decide_eq_true c53
           have c53b1 : decide (0 < t414.length) = true := decide_eq_true (by omega)
           clear c53
           replace H := bl.mp H
           obtain ⟨t419, A540, H⟩ := H
           (try dsimp only at H)
           have A54 := aa A540
           clear A540
           by_cases c55 : t419 ≤ t404
           ·rw [if_pos c55] at H
            have c55b0 : decide (t419 ≤ t404) = true := decide_eq_true c55
            clear c55
            by_cases c56 : 1 < (t414.length : Int)
            ·rw [if_pos c56] at H
             have c56b0 : decide (1 < (t414.length : Int)) = true := decide_eq_true c56
             have c56b1 : decide (1 < t414.length) = true := decide_eq_true (by omega)
             clear c56
             replace H := bl.mp H
             obtain ⟨t421, A570, H⟩ := H
             (try dsimp only at H)
             have A57 := aa A570
             clear A570
             by_cases c58 : t421 ≤ t404
             ·rw [if_pos c58] at H
              have c58b0 : decide (t421 ≤ t404) = true := decide_eq_true c58
              clear c58
              by_cases c59 : 2 < (t414.length : Int)
              ·rw [if_pos c59] at H
               have c59b0 : decide (2 < (t414.length : Int)) = true := decide_eq_true c59
               have c59b1 : decide (2 < t414.length) = true := decide_eq_true (by omega)
               clear c59
               replace H := bl.mp H
               obtain ⟨t423, A600, H⟩ := H
               (try dsimp only at H)
               have A60 := aa A600
               clear A600
               by_cases c61 : (t409 != (decide (t423 ≤ t404))) = true
               ·rw [if_pos c61] at H
                have c61b0 : (t409 != (decide (t423 ≤ t404))) = true := c61
                (try (have c61b1 : decide (t409 = (decide (t423 ≤ t404))) = false := by simpa using c61))
                (try (have c61b2 : (t409 == (decide (t423 ≤ t404))) = false := by simpa using c61))
                (try (have c61b3 : ¬ (t409 = (decide (t423 ≤ t404))) := by simpa using c61))
                clear c61
                obtain rfl := Option.some.inj H
                obtain ⟨Ao62, co62, eo62⟩ := bc HO_21.out
                subst eo62
                have p418 : 0 ≤ (0 : Int) := (by omega)
                have q418 : 0 < (t414.length : Int) := of_decide_eq_true (by first | (with_reducible assumption) | assumption)
                obtain ⟨ad418, e418, hx418_0⟩ := be (an HO_21.out).2.2 0 p418 q418
                cases e418
                have qi418 : (0 < t414.length) = True := eq_true (by omega)
                (try rw [show ((0 : Int)).toNat = 0 from rfl] at hx418_0)
                (try rw [Addr.add_zero'] at hx418_0)
                replace p418 := eq_true p418
                replace q418 := eq_true q418
                go_wp2_with (first | ((with_reducible refine gate_callee (f := 36) rfl ?_); refine goesL_ (some 138) rfl rfl Try.func36 (by kernel_rfl) rfl #[.int .i64 (rd t414 0)] rfl (by (try simp only [List.map_toArray, List.map_cons, List.map_nil]); first | done | rfl | (simp only [List.length_drop, List.length_take]; rfl)) ?_; (with_reducible refine (laws_f6abs.calls (rd t414 0) t419 _ A54.out).mono ?_); rintro e w' ⟨rfl, ⟨nd, rfl⟩⟩; refine ⟨_, rfl, ?_⟩; have p420 : 0 ≤ (1 : Int) := (by omega); have q420 : 1 < (t414.length : Int) := of_decide_eq_true (by first | (with_reducible assumption) | assumption); obtain ⟨ad420, e420, hx420_0⟩ := be (an HO_21.out).2.2 1 p420 q420; obtain rfl : ad418 = ad420 := (by injection e420); (try simp only [show (1 : Int).toNat = 1 from rfl, Nat.reduceMul, Nat.reduceEqDiff, Go.Addr.add, ↓reduceIte] at hx420_0); have qi420 : (1 < t414.length) = True := eq_true (by omega); (try rw [show ((1 : Int)).toNat = 1 from rfl] at hx420_0); replace p420 := eq_true p420; replace q420 := eq_true q420) | (go_at_call 36; (with_reducible refine (laws_f6abs.calls (rd t414 1) t421 _ A57.out).mono ?_); rintro e w' ⟨rfl, ⟨nd, rfl⟩⟩; have p422 : 0 ≤ (2 : Int) := (by omega); have q422 : 2 < (t414.length : Int) := of_decide_eq_true (by first | (with_reducible assumption) | assumption); obtain ⟨ad422, e422, hx422_0⟩ := be (an HO_21.out).2.2 2 p422 q422; obtain rfl : ad418 = ad422 := (by injection e422); (try simp only [show (2 : Int).toNat = 2 from rfl, Nat.reduceMul, Nat.reduceEqDiff, Go.Addr.add, ↓reduceIte] at hx422_0); have qi422 : (2 < t414.length) = True := eq_true (by omega); (try rw [show ((2 : Int)).toNat = 2 from rfl] at hx422_0); replace p422 := eq_true p422; replace q422 := eq_true q422) | (go_at_call 36; (with_reducible refine (laws_f6abs.calls (rd t414 2) t423 _ A60.out).mono ?_); rintro e w' ⟨rfl, ⟨nd, rfl⟩⟩))
                go_ret
                exact ⟨by first | rfl | (simp [errW_none, errW_some] <;> rfl) | (simp [*, errW_none, errW_some] <;> rfl), by repeat (first | (with_reducible first | exact HB.out | apply ae | apply ab | apply ac) | exact HB.out)⟩
               ·rw [if_neg c61] at H
                have c61b0 : (t409 != (decide (t423 ≤ t404))) = false := by simpa using c61
                (try (have c61b1 : decide (t409 = (decide (t423 ≤ t404))) = true := by simpa using c61))
                (try (have c61b2 : (t409 == (decide (t423 ≤ t404))) = true := by simpa using c61))
                clear c61
                have H' := aa H
                clear H
                obtain ⟨Ao63, co63, eo63⟩ := bc HO_21.out
                subst eo63
                have p418 : 0 ≤ (0 : Int) := (by omega)
                have q418 : 0 < (t414.length : Int) := of_decide_eq_true (by first | (with_reducible assumption) | assumption)
                obtain ⟨ad418, e418, hx418_0⟩ := be (an HO_21.out).2.2 0 p418 q418
                cases e418
                have qi418 : (0 < t414.length) = True := eq_true (by omega)
                (try rw [show ((0 : Int)).toNat = 0 from rfl] at hx418_0)
                (try rw [Addr.add_zero'] at hx418_0)
                replace p418 := eq_true p418
                replace q418 := eq_true q418
                go_wp2_with (first | ((with_reducible refine gate_callee (f := 36) rfl ?_); refine goesL_ (some 138) rfl rfl Try.func36 (by kernel_rfl) rfl #[.int .i64 (rd t414 0)] rfl (by (try simp only [List.map_toArray, List.map_cons, List.map_nil]); first | done | rfl | (simp only [List.length_drop, List.length_take]; rfl)) ?_; (with_reducible refine (laws_f6abs.calls (rd t414 0) t419 _ A54.out).mono ?_); rintro e w' ⟨rfl, ⟨nd, rfl⟩⟩; refine ⟨_, rfl, ?_⟩; have p420 : 0 ≤ (1 : Int) := (by omega); have q420 : 1 < (t414.length : Int) := of_decide_eq_true (by first | (with_reducible assumption) | assumption); obtain ⟨ad420, e420, hx420_0⟩ := be (an HO_21.out).2.2 1 p420 q420; obtain rfl : ad418 = ad420 := (by injection e420); (try simp only [show (1 : Int).toNat = 1 from rfl, Nat.reduceMul, Nat.reduceEqDiff, Go.Addr.add, ↓reduceIte] at hx420_0); have qi420 : (1 < t414.length) = True := eq_true (by omega); (try rw [show ((1 : Int)).toNat = 1 from rfl] at hx420_0); replace p420 := eq_true p420; replace q420 := eq_true q420) | (go_at_call 36; (with_reducible refine (laws_f6abs.calls (rd t414 1) t421 _ A57.out).mono ?_); rintro e w' ⟨rfl, ⟨nd, rfl⟩⟩; have p422 : 0 ≤ (2 : Int) := (by omega); have q422 : 2 < (t414.length : Int) := of_decide_eq_true (by first | (with_reducible assumption) | assumption); obtain ⟨ad422, e422, hx422_0⟩ := be (an HO_21.out).2.2 2 p422 q422; obtain rfl : ad418 = ad422 := (by injection e422); (try simp only [show (2 : Int).toNat = 2 from rfl, Nat.reduceMul, Nat.reduceEqDiff, Go.Addr.add, ↓reduceIte] at hx422_0); have qi422 : (2 < t414.length) = True := eq_true (by omega); (try rw [show ((2 : Int)).toNat = 2 from rfl] at hx422_0); replace p422 := eq_true p422; replace q422 := eq_true q422) | (go_at_call 36; (with_reducible refine (laws_f6abs.calls (rd t414 2) t423 _ A60.out).mono ?_); rintro e w' ⟨rfl, ⟨nd, rfl⟩⟩))
                go_meet
                case rel => exact ⟨_, H', ⟨by have := HJ11.out; have := HJ47.out; first | omega | exact Nat.le_refl _⟩, ⟨by (with_reducible repeat (first | apply af | apply ag | apply ah)); exact HO_3.out⟩, ⟨by (with_reducible repeat (first | apply af | apply ag | apply ah)); exact HO_4.out⟩, ⟨by repeat (first | (with_reducible first | exact HB.out | apply ae | apply ab | apply ac) | exact HB.out)⟩⟩
              ·rw [if_neg c59] at H
               exact absurd H (by simp)
             ·rw [if_neg c58] at H
              have c58b0 : decide (t421 ≤ t404) = false := decide_eq_false c58
              clear c58
              by_cases c64 : (t409 != false) = true
              ·rw [if_pos c64] at H
               have c64b0 : (t409 != false) = true := c64
               (try (have c64b1 : decide (t409 = false) = false := by simpa using c64))
               (try (have c64b2 : (t409 == false) = false := by simpa using c64))
               (try (have c64b3 : ¬ (t409 = false) := by simpa using c64))
               clear c64
               obtain rfl := Option.some.inj H
               obtain ⟨Ao65, co65, eo65⟩ := bc HO_21.out
               subst eo65
               have p418 : 0 ≤ (0 : Int) := (by omega)
               have q418 : 0 < (t414.length : Int) := of_decide_eq_true (by first | (with_reducible assumption) | assumption)
               obtain ⟨ad418, e418, hx418_0⟩ := be (an HO_21.out).2.2 0 p418 q418
               cases e418
               have qi418 : (0 < t414.length) = True := eq_true (by omega)
               (try rw [show ((0 : Int)).toNat = 0 from rfl] at hx418_0)
               (try rw [Addr.add_zero'] at hx418_0)
               replace p418 := eq_true p418
               replace q418 := eq_true q418
               go_wp2_with (first | ((with_reducible refine gate_callee (f := 36) rfl ?_); refine goesL_ (some 138) rfl rfl Try.func36 (by kernel_rfl) rfl #[.int .i64 (rd t414 0)] rfl (by (try simp only [List.map_toArray, List.map_cons, List.map_nil]); first | done | rfl | (simp only [List.length_drop, List.length_take]; rfl)) ?_; (with_reducible refine (laws_f6abs.calls (rd t414 0) t419 _ A54.out).mono ?_); rintro e w' ⟨rfl, ⟨nd, rfl⟩⟩; refine ⟨_, rfl, ?_⟩; have p420 : 0 ≤ (1 : Int) := (by omega); have q420 : 1 < (t414.length : Int) := of_decide_eq_true (by first | (with_reducible assumption) | assumption); obtain ⟨ad420, e420, hx420_0⟩ := be (an HO_21.out).2.2 1 p420 q420; obtain rfl : ad418 = ad420 := (by injection e420); (try simp only [show (1 : Int).toNat = 1 from rfl, Nat.reduceMul, Nat.reduceEqDiff, Go.Addr.add, ↓reduceIte] at hx420_0); have qi420 : (1 < t414.length) = True := eq_true (by omega); (try rw [show ((1 : Int)).toNat = 1 from rfl] at hx420_0); replace p420 := eq_true p420; replace q420 := eq_true q420) | (go_at_call 36; (with_reducible refine (laws_f6abs.calls (rd t414 1) t421 _ A57.out).mono ?_); rintro e w' ⟨rfl, ⟨nd, rfl⟩⟩))
               go_ret
               exact ⟨by first | rfl | (simp [errW_none, errW_some] <;> rfl) | (simp [*, errW_none, errW_some] <;> rfl), by repeat (first | (with_reducible first | exact HB.out | apply ae | apply ab | apply ac) | exact HB.out)⟩
              ·rw [if_neg c64] at H
               have c64b0 : (t409 != false) = false := by simpa using c64
               (try (have c64b1 : decide (t409 = false) = true := by simpa using c64))
               (try (have c64b2 : (t409 == false) = true := by simpa using c64))
               clear c64
               have H' := aa H
               clear H
               obtain ⟨Ao66, co66, eo66⟩ := bc HO_21.out
               subst eo66
               have p418 : 0 ≤ (0 : Int) := (by omega)
               have q418 : 0 < (t414.length : Int) := of_decide_eq_true (by first | (with_reducible assumption) | assumption)
               obtain ⟨ad418, e418, hx418_0⟩ := be (an HO_21.out).2.2 0 p418 q418
               cases e418
               have qi418 : (0 < t414.length) = True := eq_true (by omega)
               (try rw [show ((0 : Int)).toNat = 0 from rfl] at hx418_0)
               (try rw [Addr.add_zero'] at hx418_0)
               replace p418 := eq_true p418
               replace q418 := eq_true q418
               go_wp2_with (first | ((with_reducible refine gate_callee (f := 36) rfl ?_); refine goesL_ (some 138) rfl rfl Try.func36 (by kernel_rfl) rfl #[.int .i64 (rd t414 0)] rfl (by (try simp only [List.map_toArray, List.map_cons, List.map_nil]); first | done | rfl | (simp only [List.length_drop, List.length_take]; rfl)) ?_; (with_reducible refine (laws_f6abs.calls (rd t414 0) t419 _ A54.out).mono ?_); rintro e w' ⟨rfl, ⟨nd, rfl⟩⟩; refine ⟨_, rfl, ?_⟩; have p420 : 0 ≤ (1 : Int) := (by omega); have q420 : 1 < (t414.length : Int) := of_decide_eq_true (by first | (with_reducible assumption) | assumption); obtain ⟨ad420, e420, hx420_0⟩ := be (an HO_21.out).2.2 1 p420 q420; obtain rfl : ad418 = ad420 := (by injection e420); (try simp only [show (1 : Int).toNat = 1 from rfl, Nat.reduceMul, Nat.reduceEqDiff, Go.Addr.add, ↓reduceIte] at hx420_0); have qi420 : (1 < t414.length) = True := eq_true (by omega); (try rw [show ((1 : Int)).toNat = 1 from rfl] at hx420_0); replace p420 := eq_true p420; replace q420 := eq_true q420) | (go_at_call 36; (with_reducible refine (laws_f6abs.calls (rd t414 1) t421 _ A57.out).mono ?_); rintro e w' ⟨rfl, ⟨nd, rfl⟩⟩))
               go_meet
               case rel => exact ⟨_, H', ⟨by have := HJ11.out; have := HJ47.out; first | omega | exact Nat.le_refl _⟩, ⟨by (with_reducible repeat (first | apply af | apply ag | apply ah)); exact HO_3.out⟩, ⟨by (with_reducible repeat (first | apply af | apply ag | apply ah)); exact HO_4.out⟩, ⟨by repeat (first | (with_reducible first | exact HB.out | apply ae | apply ab | apply ac) | exact HB.out)⟩⟩
            ·rw [if_neg c56] at H
             exact absurd H (by simp)
           ·rw [if_neg c55] at H
            have c55b0 : decide (t419 ≤ t404) = false := decide_eq_false c55
            clear c55
            by_cases c67 : (t409 != false) = true
            ·rw [if_pos c67] at H
             have c67b0 : (t409 != false) = true := c67
             (try (have c67b1 : decide (t409 = false) = false := by simpa using c67))
             (try (have c67b2 : (t409 == false) = false := by simpa using c67))
             (try (have c67b3 : ¬ (t409 = false) := by simpa using c67))
             clear c67
             obtain rfl := Option.some.inj H
             obtain ⟨Ao68, co68, eo68⟩ := bc HO_21.out
             subst eo68
             have p418 : 0 ≤ (0 : Int) := (by omega)
             have q418 : 0 < (t414.length : Int) := of_decide_eq_true (by first | (with_reducible assumption) | assumption)
             obtain ⟨ad418, e418, hx418_0⟩ := be (an HO_21.out).2.2 0 p418 q418
             cases e418
             have qi418 : (0 < t414.length) = True := eq_true (by omega)
             (try rw [show ((0 : Int)).toNat = 0 from rfl] at hx418_0)
             (try rw [Addr.add_zero'] at hx418_0)
             replace p418 := eq_true p418
             replace q418 := eq_true q418
             go_wp2_with (first | ((with_reducible refine gate_callee (f := 36) rfl ?_); refine goesL_ (some 138) rfl rfl Try.func36 (by kernel_rfl) rfl #[.int .i64 (rd t414 0)] rfl (by (try simp only [List.map_toArray, List.map_cons, List.map_nil]); first | done | rfl | (simp only [List.length_drop, List.length_take]; rfl)) ?_; (with_reducible refine (laws_f6abs.calls (rd t414 0) t419 _ A54.out).mono ?_); rintro e w' ⟨rfl, ⟨nd, rfl⟩⟩; refine ⟨_, rfl, ?_⟩))
             go_ret
             exact ⟨by first | rfl | (simp [errW_none, errW_some] <;> rfl) | (simp [*, errW_none, errW_some] <;> rfl), by repeat (first | (with_reducible first | exact HB.out | apply ae | apply ab | apply ac) | exact HB.out)⟩
            ·rw [if_neg c67] at H
             have c67b0 : (t409 != false) = false := by simpa using c67
             (try (have c67b1 : decide (t409 = false) = true := by simpa using c67))
             (try (have c67b2 : (t409 == false) = true := by simpa using c67))
             clear c67
             have H' := aa H
             clear H
             obtain ⟨Ao69, co69, eo69⟩ := bc HO_21.out
             subst eo69
             have p418 : 0 ≤ (0 : Int) := (by omega)
             have q418 : 0 < (t414.length : Int) := of_decide_eq_true (by first | (with_reducible assumption) | assumption)
             obtain ⟨ad418, e418, hx418_0⟩ := be (an HO_21.out).2.2 0 p418 q418
             cases e418
             have qi418 : (0 < t414.length) = True := eq_true (by omega)
             (try rw [show ((0 : Int)).toNat = 0 from rfl] at hx418_0)
             (try rw [Addr.add_zero'] at hx418_0)
             replace p418 := eq_true p418
             replace q418 := eq_true q418
             go_wp2_with (first | ((with_reducible refine gate_callee (f := 36) rfl ?_); refine goesL_ (some 138) rfl rfl Try.func36 (by kernel_rfl) rfl #[.int .i64 (rd t414 0)] rfl (by (try simp only [List.map_toArray, List.map_cons, List.map_nil]); first | done | rfl | (simp only [List.length_drop, List.length_take]; rfl)) ?_; (with_reducible refine (laws_f6abs.calls (rd t414 0) t419 _ A54.out).mono ?_); rintro e w' ⟨rfl, ⟨nd, rfl⟩⟩; refine ⟨_, rfl, ?_⟩))
             go_meet
             case rel => exact ⟨_, H', ⟨by have := HJ11.out; have := HJ47.out; first | omega | exact Nat.le_refl _⟩, ⟨by (with_reducible repeat (first | apply af | apply ag | apply ah)); exact HO_3.out⟩, ⟨by (with_reducible repeat (first | apply af | apply ag | apply ah)); exact HO_4.out⟩, ⟨by repeat (first | (with_reducible first | exact HB.out | apply ae | apply ab | apply ac) | exact HB.out)⟩⟩
          ·rw [if_neg c53] at H
           exact absurd H (by simp)
      ·rw [if_neg c46] at H
       have c46b0 : (t408 == 0) = false := beq_eq_false_iff_ne.mpr c46
       have c46b1 : (t408 != 0) = true := bne_iff_ne.mpr c46
       (first | rw [c46b0] | (simp only [i64_w, i32_w]; rw [c46b0]) | skip)
       have H' := aa H
       clear H
       go_wp2
       go_meet
       case rel => exact ⟨_, H', ⟨by have := HJ11.out; first | omega | exact Nat.le_refl _⟩, ⟨by (with_reducible repeat (first | apply af | apply ag | apply ah)); exact av HO_3.out (fun _ hk => trivial)⟩, ⟨by (with_reducible repeat (first | apply af | apply ag | apply ah)); exact HO_4.out⟩, ⟨by repeat (first | (with_reducible first | exact HB.out | apply ae | apply ab | apply ac) | exact HB.out)⟩⟩
     case rest => as_aux_lemma =>
      clear HC45
      try clear c1
      try clear c2
      try clear p2
      try clear c3
      try clear c4
      try clear p4
      try clear q4
      try clear hx4
      try clear qi4
      try clear c5
      try clear c6
      try clear c14
      try clear c24
      try clear c24b0
      try clear c24b1
      try clear c25
      try clear c25b0
      try clear c25b1
      try clear c26
      try clear c26b0
      try clear c26b1
      try clear c27
      try clear c27b0
      try clear c27b1
      try clear c29
      try clear c30
      try clear c30b0
      try clear c30b1
      try clear c31
      try clear c31b0
      try clear c31b1
      try clear c31b2
      try clear c36
      try clear p41
      try clear q41
      try clear hx41
      try clear qi41
      try clear c42
      try clear p42
      try clear q42
      try clear hx42
      try clear qi42
      try clear c43
      try clear c44
      try clear c45
      try clear c46
      try clear c46b0
      try clear c46b1
      try clear c48
      try clear c50
      try clear c50b0
      try clear c50b1
      try clear c52
      try clear c53
      try clear c53b0
      try clear c53b1
      try clear c55
      try clear c55b0
      try clear c56
      try clear c56b0
      try clear c56b1
      try clear c58
      try clear c58b0
      try clear c59
      try clear c59b0
      try clear c59b1
      try clear c61
      try clear c61b0
      try clear c61b1
      try clear c61b2
      try clear c64
      try clear c64b0
      try clear c64b1
      try clear c64b2
      try clear c67
      try clear c67b0
      try clear c67b1
      try clear c67b2
      try clear hx418_0
      try clear hx420_0
      try clear hx422_0
      try clear p2
      try clear p418
      try clear p420
      try clear p422
      try clear q418
      try clear q420
      try clear q422
      obtain ⟨kq, HA, HJ44, HO_3, HO_4, HB⟩ := hcut
      cases kq with
      | zero => exact absurd HA.out (by simp [laws_FnBalanceOf.j2])
      | succ kj44 =>
       have H := HA.out
       clear HA
       simp only [laws_FnBalanceOf.j2] at H
       have HC70 := aa H
       clear H
       go_upto_region 19 with (fail)
       go_cut [164] (fun v164 wc => ∃ (kq : Nat) (x164_69 : Bool), v164 = .bool x164_69 ∧ Aside0 (laws_FnBalanceOf.j3 kq t383 t384 t392 t393 x164_69 = some r) ∧ Aside0 (kq ≤ kj44) ∧ Aside0 (Kd.R k64 64 wc w.heap.size (fun _ => True) (.slice Ao14 t383.length co14) t383) ∧ Aside0 (Kd.R k62 62 wc w.heap.size (fun _ => True) (.slice Ao15 t384.length co15) t384) ∧ Aside0 (Below w.heap.size w wc))
       case first => as_aux_lemma =>
        have H := HC70.out
        clear HC70
        by_cases c71 : t391 = 0
        ·rw [if_pos c71] at H
         have c71b0 : (t391 == 0) = true := beq_iff_eq.mpr c71
         have c71b1 : (t391 != 0) = false := bne_eq_false_iff_eq.mpr c71
         clear c71
         (first | rw [c71b0] | (simp only [i64_w, i32_w]; rw [c71b0]) | skip)
         have H' := aa H
         clear H
         go_wp2
         go_meet
         case rel => exact ⟨_, (decide ((t383.length : Int) ≥ 10)), (by first | rfl | (simp; done) | (simp [*]; done)), H', ⟨by have := HJ11.out; have := HJ44.out; first | omega | exact Nat.le_refl _⟩, ⟨by (with_reducible repeat (first | apply af | apply ag | apply ah)); exact HO_3.out⟩, ⟨by (with_reducible repeat (first | apply af | apply ag | apply ah)); exact HO_4.out⟩, ⟨by repeat (first | (with_reducible first | exact HB.out | apply ae | apply ab | apply ac) | exact HB.out)⟩⟩
        ·rw [if_neg c71] at H
         have c71b0 : (t391 == 0) = false := beq_eq_false_iff_ne.mpr c71
         have c71b1 : (t391 != 0) = true := bne_iff_ne.mpr c71
         (first | rw [c71b0] | (simp only [i64_w, i32_w]; rw [c71b0]) | skip)
         have H' := aa H
         clear H
         go_wp2
         go_meet
         case rel => exact ⟨_, (true), (by first | rfl | (simp; done) | (simp [*]; done)), H', ⟨by have := HJ11.out; have := HJ44.out; first | omega | exact Nat.le_refl _⟩, ⟨by (with_reducible repeat (first | apply af | apply ag | apply ah)); exact HO_3.out⟩, ⟨by (with_reducible repeat (first | apply af | apply ag | apply ah)); exact HO_4.out⟩, ⟨by repeat (first | (with_reducible first | exact HB.out | apply ae | apply ab | apply ac) | exact HB.out)⟩⟩
       case rest => as_aux_lemma =>
        clear HC70
        try clear c1
        try clear c2
        try clear p2
        try clear c3
        try clear c4
        try clear p4
        try clear q4
        try clear hx4
        try clear qi4
        try clear c5
        try clear c6
        try clear c7
        try clear c14
        try clear c24
        try clear c24b0
        try clear c24b1
        try clear c25
        try clear c25b0
        try clear c25b1
        try clear c26
        try clear c26b0
        try clear c26b1
        try clear c27
        try clear c27b0
        try clear c27b1
        try clear c29
        try clear c30
        try clear c30b0
        try clear c30b1
        try clear c31
        try clear c31b0
        try clear c31b1
        try clear c31b2
        try clear c36
        try clear p41
        try clear q41
        try clear hx41
        try clear qi41
        try clear c42
        try clear p42
        try clear q42
        try clear hx42
        try clear qi42
        try clear c43
        try clear c44
        try clear c45
        try clear c46
        try clear c46b0
        try clear c46b1
        try clear c48
        try clear c50
        try clear c50b0
        try clear c50b1
        try clear c52
        try clear c53
        try clear c53b0
        try clear c53b1
        try clear c55
        try clear c55b0
        try clear c56
        try clear c56b0
        try clear c56b1
        try clear c58
        try clear c58b0
        try clear c59
        try clear c59b0
        try clear c59b1
        try clear c61
        try clear c61b0
        try clear c61b1
        try clear c61b2
        try clear c64
        try clear c64b0
        try clear c64b1
        try clear c64b2
        try clear c67
        try clear c67b0
        try clear c67b1
        try clear c67b2
        try clear c71
        try clear c71b0
        try clear c71b1
        try clear hx418_0
        try clear hx420_0
        try clear hx422_0
        try clear p2
        try clear p4
        try clear p41
        try clear p418
        try clear p42
        try clear p420
        try clear p422
        try clear q4
        try clear q41
        try clear q418
        try clear q42
        try clear q420
        try clear q422
        obtain ⟨kq, x164_69, rfl, HA, HJ69, HO_3, HO_4, HB⟩ := hcut
        cases kq with
        | zero => exact absurd HA.out (by simp [laws_FnBalanceOf.j3])
        | succ kj69 =>
         have H := HA.out
         clear HA
         simp only [laws_FnBalanceOf.j3] at H
         by_cases c72 : x164_69 = true
         ·subst c72
          have H1 : (some true) = some r := by rw [if_pos rfl] at H; exact H
          clear H
          have H := H1
          clear H1
          obtain rfl := Option.some.inj H
          go_wp2
          go_ret
          exact ⟨by first | rfl | (simp [errW_none, errW_some] <;> rfl) | (simp [*, errW_none, errW_some] <;> rfl), by repeat (first | (with_reducible first | exact HB.out | apply ae | apply ab | apply ac) | exact HB.out)⟩
         ·replace c72 := Bool.eq_false_iff.mpr c72
          subst c72
          have H1 := H; rw [if_neg (show ¬ (false = true) by decide)] at H1
          clear H
          have H := H1
          clear H1
          obtain ⟨y424, hy424⟩ : ∃ y_ : List Int, y_ = (([] : List Int)) := ⟨_, rfl⟩
          replace H : (laws_FnBalanceOf.l0 kj69 t383 t384 t392 t393 y424 (-1)) = some r := by first | (rw [hy424]; with_reducible exact H) | (have H2_ := (Option.bind_some _ _).symm.trans H; rw [hy424]; with_reducible exact H2_) | (have H2_ := (Option.bind_some _ _).symm.trans H; with_reducible exact H2_) | with_reducible exact H | (rw [hy424]; exact H) | exact H
          have Ny424 := aa hy424
          clear hy424
          have H' := aa H
          clear H
          go_wp2_with (first | ((with_reducible refine bi (N := 165) rfl ?_); (try (refine gate_guard (by rfl) ?_; dsimp only)); refine Kd.R_lit (Kd.int .i64) _ 2 ?hg (N := 165) ?hd (xs := ([] : List Int)) (inner := []) (ok := fun _ => True) (okp := fun _ => True) ?hr ?hp (fun _ hk => hk) trivial (Below.refl _ _) (Nat.le_refl _) (by simp) ?_; (case hd => rfl); (case hg => rfl); (case hr => first | (go_simp; done) | (go_simp; rfl)); (case hp => exact (Reps.none _ _)); intro v425 w73 ho74 hb hg_ hnew_; clear hg_ hnew_; (first | rw [← Ny424.out] at ho74 | (simp only [Int.reduceToNat] at ho74; rw [← Ny424.out] at ho74)); have n0_ := aa (ax (by (with_reducible repeat (first | apply af | apply ag | apply ah)); exact HO_3.out) hb); have n1_ := aa (ax (by (with_reducible repeat (first | apply af | apply ag | apply ah)); exact HO_4.out) hb); have n2_ := aa (bg ho74 (aw (by repeat (first | (with_reducible first | exact HB.out | apply ae | apply ab | apply ac) | exact HB.out)))); have n3_ := aa (ap (by repeat (first | (with_reducible first | exact HB.out | apply ae | apply ab | apply ac) | exact HB.out)) hb); clear HO_3; clear HO_4; clear HB; have HO_3 := n0_; have HO_4 := n1_; have HO426 := n2_; have HB := n3_; clear n0_ n1_ n2_ n3_; clear hb ho74))
          go_loopg [23, 24] kj69 (fun kq v23 v24 w' => ∃ (x23_4 : List Int) (x24_4 : Int), v24 = .int .i64 x24_4 ∧ Aside0 (laws_FnBalanceOf.l0 kq t383 t384 t392 t393 x23_4 x24_4 = some r) ∧ Aside0 (kq ≤ kj69) ∧ Aside0 (Kd.R k64 64 w' w.heap.size (fun _ => True) (.slice Ao14 t383.length co14) t383) ∧ Aside0 (Kd.R k62 62 w' w.heap.size (fun _ => True) (.slice Ao15 t384.length co15) t384) ∧ Aside0 (Kd.R (Kd.int .i64) 2 w' w.heap.size (fun _ => True) v23 x23_4) ∧ Aside0 (Below w.heap.size w w'))
          case atStart => exact ⟨(y424), ((-1)), (by first | rfl | (simp; done) | (simp [*]; done)), H', ⟨Nat.le_refl _⟩, ⟨by (with_reducible repeat (first | apply af | apply ag | apply ah)); exact HO_3.out⟩, ⟨by (with_reducible repeat (first | apply af | apply ag | apply ah)); exact HO_4.out⟩, ⟨by (with_reducible repeat (first | apply af | apply ag | apply ah)); exact HO426.out⟩, ⟨by repeat (first | (with_reducible first | exact HB.out | apply ae | apply ab | apply ac) | exact HB.out)⟩⟩
          case round => as_aux_lemma =>
           clear H'
           try clear c1
           try clear c2
           try clear p2
           try clear c3
           try clear c4
           try clear p4
           try clear q4
           try clear hx4
           try clear qi4
           try clear c5
           try clear c6
           try clear c7
           try clear c14
           try clear c24
           try clear c24b0
           try clear c24b1
           try clear c25
           try clear c25b0
           try clear c25b1
           try clear c26
           try clear c26b0
           try clear c26b1
           try clear c27
           try clear c27b0
           try clear c27b1
           try clear c29
           try clear c30
           try clear c30b0
           try clear c30b1
           try clear c31
           try clear c31b0
           try clear c31b1
           try clear c31b2
           try clear c36
           try clear p41
           try clear q41
           try clear hx41
           try clear qi41
           try clear c42
           try clear p42
           try clear q42
           try clear hx42
           try clear qi42
           try clear c43
           try clear c44
           try clear c45
           try clear c46
           try clear c46b0
           try clear c46b1
           try clear c48
           try clear c50
           try clear c50b0
           try clear c50b1
           try clear c52
           try clear c53
           try clear c53b0
           try clear c53b1
           try clear c55
           try clear c55b0
           try clear c56
           try clear c56b0
           try clear c56b1
           try clear c58
           try clear c58b0
           try clear c59
           try clear c59b0
           try clear c59b1
           try clear c61
           try clear c61b0
           try clear c61b1
           try clear c61b2
           try clear c64
           try clear c64b0
           try clear c64b1
           try clear c64b2
           try clear c67
           try clear c67b0
           try clear c67b1
           try clear c67b2
           try clear c71
           try clear c71b0
           try clear c71b1
           try clear c72
           try clear hx418_0
           try clear hx420_0
           try clear hx422_0
           try clear p2
           try clear p4
           try clear p41
           try clear p418
           try clear p42
           try clear p420
           try clear p422
           try clear q4
           try clear q41
           try clear q418
           try clear q42
           try clear q420
           try clear q422
           obtain ⟨x23_4, x24_4, rfl, HA, HK4, HO_3, HO_4, HO_23, HB⟩ := hrel
           cases gk with
           | zero => exact absurd HA.out (by simp [laws_FnBalanceOf.l0])
           | succ k4 =>
            have H := HA.out
            clear HA
            simp only [laws_FnBalanceOf.l0] at H
            by_cases c75 : x24_4 ≤ 1
            ·rw [if_pos c75] at H
             have c75b0 : decide (x24_4 ≤ 1) = true := decide_eq_true c75
             clear c75
             have HC76 := aa H
             clear H
             go_upto_region 26 with (fail)
             go_cut [178] (fun v178 wc => ∃ (kq : Nat) (x178_75 : Bool), v178 = .bool x178_75 ∧ Aside0 (laws_FnBalanceOf.j5 kq t383 t384 t392 t393 x23_4 x24_4 (wrap64 (t393 + x24_4)) x178_75 = some r) ∧ Aside0 (kq ≤ k4) ∧ Aside0 (Kd.R k64 64 wc w.heap.size (fun _ => True) (.slice Ao14 t383.length co14) t383) ∧ Aside0 (Kd.R k62 62 wc w.heap.size (fun _ => True) (.slice Ao15 t384.length co15) t384) ∧ Aside0 (Kd.R (Kd.int .i64) 2 wc w.heap.size (fun _ => True) u23 x23_4) ∧ Aside0 (Below w.heap.size w wc))
             case first => as_aux_lemma =>
              have H := HC76.out
              clear HC76
              by_cases c77 : (wrap64 (t393 + x24_4)) < 1
              ·rw [if_pos c77] at H
               have c77b0 : decide ((wrap64 (t393 + x24_4)) < 1) = true := decide_eq_true c77
               clear c77
               (first | rw [c77b0] | (simp only [i64_w, i32_w]; rw [c77b0]) | skip)
               have H' := aa H
               clear H
               go_wp2
               go_meet
               case rel => exact ⟨_, (true), (by first | rfl | (simp; done) | (simp [*]; done)), H', ⟨by have := HJ11.out; have := HJ44.out; have := HJ69.out; have := HK4.out; first | omega | exact Nat.le_refl _⟩, ⟨by (with_reducible repeat (first | apply af | apply ag | apply ah)); exact HO_3.out⟩, ⟨by (with_reducible repeat (first | apply af | apply ag | apply ah)); exact HO_4.out⟩, ⟨by (with_reducible repeat (first | apply af | apply ag | apply ah)); exact HO_23.out⟩, ⟨by repeat (first | (with_reducible first | exact HB.out | apply ae | apply ab | apply ac) | exact HB.out)⟩⟩
              ·rw [if_neg c77] at H
               have c77b0 : decide ((wrap64 (t393 + x24_4)) < 1) = false := decide_eq_false c77
               clear c77
               (first | rw [c77b0] | (simp only [i64_w, i32_w]; rw [c77b0]) | skip)
               have H' := aa H
               clear H
               go_wp2
               go_meet
               case rel => exact ⟨_, (decide ((wrap64 (t393 + x24_4)) > 1000)), (by first | rfl | (simp; done) | (simp [*]; done)), H', ⟨by have := HJ11.out; have := HJ44.out; have := HJ69.out; have := HK4.out; first | omega | exact Nat.le_refl _⟩, ⟨by (with_reducible repeat (first | apply af | apply ag | apply ah)); exact HO_3.out⟩, ⟨by (with_reducible repeat (first | apply af | apply ag | apply ah)); exact HO_4.out⟩, ⟨by (with_reducible repeat (first | apply af | apply ag | apply ah)); exact HO_23.out⟩, ⟨by repeat (first | (with_reducible first | exact HB.out | apply ae | apply ab | apply ac) | exact HB.out)⟩⟩
             case rest => as_aux_lemma =>
              clear HC76
              try clear c1
              try clear c2
              try clear p2
              try clear c3
              try clear c4
              try clear p4
              try clear q4
              try clear hx4
              try clear qi4
              try clear c5
              try clear c6
              try clear p6
              try clear c7
              try clear c14
              try clear c24
              try clear c24b0
              try clear c24b1
              try clear c25
              try clear c25b0
              try clear c25b1
              try clear c26
              try clear c26b0
              try clear c26b1
              try clear c27
              try clear c27b0
              try clear c27b1
              try clear c29
              try clear c30
              try clear c30b0
              try clear c30b1
              try clear c31
              try clear c31b0
              try clear c31b1
              try clear c31b2
              try clear c36
              try clear p41
              try clear q41
              try clear hx41
              try clear qi41
              try clear c42
              try clear p42
              try clear q42
              try clear hx42
              try clear qi42
              try clear c43
              try clear c44
              try clear c45
              try clear c46
              try clear c46b0
              try clear c46b1
              try clear c48
              try clear c50
              try clear c50b0
              try clear c50b1
              try clear c52
              try clear c53
              try clear c53b0
              try clear c53b1
              try clear c55
              try clear c55b0
              try clear c56
              try clear c56b0
              try clear c56b1
              try clear c58
              try clear c58b0
              try clear c59
              try clear c59b0
              try clear c59b1
              try clear c61
              try clear c61b0
              try clear c61b1
              try clear c61b2
              try clear c64
              try clear c64b0
              try clear c64b1
              try clear c64b2
              try clear p64
              try clear c67
              try clear c67b0
              try clear c67b1
              try clear c67b2
              try clear c71
              try clear c71b0
              try clear c71b1
              try clear c72
              try clear c75
              try clear c75b0
              try clear c77
              try clear c77b0
              try clear hx418_0
              try clear hx420_0
              try clear hx422_0
              try clear p2
              try clear p4
              try clear p41
              try clear p418
              try clear p42
              try clear p420
              try clear p422
              try clear q4
              try clear q41
              try clear q418
              try clear q42
              try clear q420
              try clear q422
              obtain ⟨kq, x178_75, rfl, HA, HJ75, HO_3, HO_4, HO_23, HB⟩ := hcut
              cases kq with
              | zero => exact absurd HA.out (by simp [laws_FnBalanceOf.j5])
              | succ kj75 =>
               have H := HA.out
               clear HA
               simp only [laws_FnBalanceOf.j5] at H
               by_cases c78 : x178_75 = true
               ·subst c78
                have H1 := H; rw [if_pos rfl] at H1
                clear H
                have H := H1
                clear H1
                have H' := aa H
                clear H
                go_wp2
                go_roundg kj75
                case measure => have := HJ11.out; have := HJ44.out; have := HJ69.out; have := HK4.out; have := HJ75.out; omega
                case rel => exact ⟨(x23_4), (wrap64 (x24_4 + 1)), (by first | rfl | (simp; done) | (simp [*]; done)), H', ⟨by have := HJ11.out; have := HJ44.out; have := HJ69.out; have := HK4.out; have := HJ75.out; omega⟩, ⟨by (with_reducible repeat (first | apply af | apply ag | apply ah)); exact HO_3.out⟩, ⟨by (with_reducible repeat (first | apply af | apply ag | apply ah)); exact HO_4.out⟩, ⟨by (with_reducible repeat (first | apply af | apply ag | apply ah)); exact HO_23.out⟩, ⟨by repeat (first | (with_reducible first | exact HB.out | apply ae | apply ab | apply ac) | exact HB.out)⟩⟩
               ·replace c78 := Bool.eq_false_iff.mpr c78
                subst c78
                have H1 := H; rw [if_neg (show ¬ (false = true) by decide)] at H1
                clear H
                have H := H1
                clear H1
                obtain ⟨y427, hy427⟩ : ∃ y_ : List (S64), y_ = (([] : List (S64))) := ⟨_, rfl⟩
                replace H : (if y427.length + t383.length < 5864062014805 then ((some (y427 ++ t383 : List (S64))).bind fun y430 => (if 0 ≤ t392 then (if t392 < (t384.length : Int) then ((some (([(⟨(wrap64 (t393 + x24_4)), (⟨(rd_T62 t384 t392).f0, (rd_T62 t384 t392).f1⟩ : S62)⟩ : S64)] : List (S64)) : List (S64))).bind fun y434 => (if y430.length + y434.length < 5864062014805 then ((impl_MomentOf.f kj75 (y430 ++ y434)).bind fun bt440 => (if bt440.2 = 0 then (laws_FnBalanceOf.j6 kj75 t383 t384 t392 t393 x23_4 x24_4 bt440.1 ((bt440.1.length : Int) != 3)) else (laws_FnBalanceOf.j6 kj75 t383 t384 t392 t393 x23_4 x24_4 bt440.1 true))) else (none))) else (none)) else (none))) else (none)) = some r := by first | (rw [hy427]; with_reducible exact H) | (have H2_ := (Option.bind_some _ _).symm.trans H; rw [hy427]; with_reducible exact H2_) | (have H2_ := (Option.bind_some _ _).symm.trans H; with_reducible exact H2_) | with_reducible exact H | (rw [hy427]; exact H) | exact H
                have Ny427 := aa hy427
                clear hy427
                by_cases c79 : y427.length + t383.length < 5864062014805
                ·rw [if_pos c79] at H
                 have LMc79 := aa c79
                 clear c79
                 obtain ⟨y430, hy430⟩ : ∃ y_ : List (S64), y_ = (y427 ++ t383) := ⟨_, rfl⟩
                 replace H : (if 0 ≤ t392 then (if t392 < (t384.length : Int) then ((some (([(⟨(wrap64 (t393 + x24_4)), (⟨(rd_T62 t384 t392).f0, (rd_T62 t384 t392).f1⟩ : S62)⟩ : S64)] : List (S64)) : List (S64))).bind fun y434 => (if y430.length + y434.length < 5864062014805 then ((impl_MomentOf.f kj75 (y430 ++ y434)).bind fun bt440 => (if bt440.2 = 0 then (laws_FnBalanceOf.j6 kj75 t383 t384 t392 t393 x23_4 x24_4 bt440.1 ((bt440.1.length : Int) != 3)) else (laws_FnBalanceOf.j6 kj75 t383 t384 t392 t393 x23_4 x24_4 bt440.1 true))) else (none))) else (none)) else (none)) = some r := by first | (rw [hy430]; with_reducible exact H) | (have H2_ := (Option.bind_some _ _).symm.trans H; rw [hy430]; with_reducible exact H2_) | (have H2_ := (Option.bind_some _ _).symm.trans H; with_reducible exact H2_) | with_reducible exact H | (rw [hy430]; exact H) | exact H
                 have Ny430 := aa hy430
                 clear hy430
                 by_cases c80 : 0 ≤ t392
                 ·rw [if_pos c80] at H
                  have c80b0 : decide (0 ≤ t392) = true := decide_eq_true c80
                  clear c80
                  by_cases c81 : t392 < (t384.length : Int)
                  ·rw [if_pos c81] at H
                   have c81b0 : decide (t392 < (t384.length : Int)) = true := decide_eq_true c81
                   clear c81
                   obtain ⟨y434, hy434⟩ : ∃ y_ : List (S64), y_ = (([(⟨(wrap64 (t393 + x24_4)), (⟨(rd_T62 t384 t392).f0, (rd_T62 t384 t392).f1⟩ : S62)⟩ : S64)] : List (S64))) := ⟨_, rfl⟩
                   replace H : (if y430.length + y434.length < 5864062014805 then ((impl_MomentOf.f kj75 (y430 ++ y434)).bind fun bt440 => (if bt440.2 = 0 then (laws_FnBalanceOf.j6 kj75 t383 t384 t392 t393 x23_4 x24_4 bt440.1 ((bt440.1.length : Int) != 3)) else (laws_FnBalanceOf.j6 kj75 t383 t384 t392 t393 x23_4 x24_4 bt440.1 true))) else (none)) = some r := by first | (rw [hy434]; with_reducible exact H) | (have H2_ := (Option.bind_some _ _).symm.trans H; rw [hy434]; with_reducible exact H2_) | (have H2_ := (Option.bind_some _ _).symm.trans H; with_reducible exact H2_) | with_reducible exact H | (rw [hy434]; exact H) | exact H
                   have Ny434 := aa hy434
                   clear hy434
                   by_cases c82 : y430.length + y434.length < 5864062014805
                   ·rw [if_pos c82] at H
                    have LMc82 := aa c82
                    clear c82
                    obtain ⟨y437, hy437⟩ : ∃ y_ : List (S64), y_ = (y430 ++ y434) := ⟨_, rfl⟩
                    replace H : ((impl_MomentOf.f kj75 y437).bind fun bt440 => (if bt440.2 = 0 then (laws_FnBalanceOf.j6 kj75 t383 t384 t392 t393 x23_4 x24_4 bt440.1 ((bt440.1.length : Int) != 3)) else (laws_FnBalanceOf.j6 kj75 t383 t384 t392 t393 x23_4 x24_4 bt440.1 true))) = some r := by first | (rw [hy437]; with_reducible exact H) | (have H2_ := (Option.bind_some _ _).symm.trans H; rw [hy437]; with_reducible exact H2_) | (have H2_ := (Option.bind_some _ _).symm.trans H; with_reducible exact H2_) | with_reducible exact H | (rw [hy437]; exact H) | exact H
                    have Ny437 := aa hy437
                    clear hy437
                    replace H := bl.mp H
                    obtain ⟨⟨t440, t441⟩, A830, H⟩ := H
                    (try dsimp only at H)
                    have A83 := aa A830
                    clear A830
                    have HC84 := aa H
                    clear H
                    try go_wp2
                    have n0_ := aa (ah HO_3.out)
                    have n1_ := aa (ah HO_4.out)
                    have n2_ := aa (ah HO_23.out)
                    have n3_ := aa (ac HB.out)
                    clear HO_3
                    clear HO_4
                    clear HO_23
                    clear HB
                    have HO_3 := n0_
                    have HO_4 := n1_
                    have HO_23 := n2_
                    have HB := n3_
                    clear n0_ n1_ n2_ n3_
                    have p433 : 0 ≤ (t392 : Int) := of_decide_eq_true (by first | (with_reducible assumption) | assumption)
                    have q433 : t392 < (t384.length : Int) := of_decide_eq_true (by first | (with_reducible assumption) | assumption)
                    obtain ⟨ad433, e433, hx433_0, hx433_1⟩ := at_T62 (an HO_4.out).2.2 t392 p433 q433
                    cases e433
                    replace p433 := eq_true p433
                    replace q433 := eq_true q433
                    refine start_ (n := 12) (S := fun w' => w'.cell? (ad433.add ((t392).toNat * 2)) = some (.int .i64 ((rd_T62 t384 t392).f0)) ∧ w'.cell? ⟨(ad433.add ((t392).toNat * 2)).block, (ad433.add ((t392).toNat * 2)).off + 1, none⟩ = some (.int .i64 ((rd_T62 t384 t392).f1))) (ds := []) #[false, false, false, false, false, false, false, false, false, false, false, false] (by kernel_rfl) rfl rfl ⟨hx433_0, hx433_1⟩ (fun hHeld => ?_); refine with_tabW laws_FnBalanceOf.tab27 laws_FnBalanceOf.bits27 (fun HT_ HW_ => ?_)
                    generalize wc.drew = w85 at HO_3 HO_4 HO_23 HB hx433_0 hx433_1 hHeld ⊢
                    refine pure_ (i := 1) (N := some 180) (v := ?_) (a' := ?_) #[false, true, false, false, false, false, false, false, false, false, false, false] rfl rfl (any_of HT_.out (by kernel_rfl)) (fun _ _ _ h => h) (Or.inl ⟨by rfl, ?_⟩) ?_ ?_
                    rotate_left
                    ·intro w'
                     go_simp
                     with_reducible rfl
                    rotate_left
                    ·simp only [Act.put, List.setIfInBounds_toArray, List.set_cons_zero, List.set_cons_succ, i64_w, i32_w]
                     rfl
                    refine pure_ (i := 3) (N := some 182) (v := ?_) (a' := ?_) #[false, true, false, true, false, false, false, false, false, false, false, false] rfl rfl (any_of HT_.out (by kernel_rfl)) (fun _ _ _ h => h) (Or.inl ⟨by rfl, ?_⟩) ?_ ?_
                    rotate_left
                    ·intro w'
                     go_simp
                     with_reducible rfl
                    rotate_left
                    ·simp only [Act.put, List.setIfInBounds_toArray, List.set_cons_zero, List.set_cons_succ, i64_w, i32_w]
                     rfl
                    refine pure_ (i := 4) (N := some 183) (v := ?_) (a' := ?_) #[false, true, false, true, true, false, false, false, false, false, false, false] rfl rfl (any_of HT_.out (by kernel_rfl)) (fun _ _ _ h => h) (Or.inl ⟨by rfl, ?_⟩) ?_ ?_
                    rotate_left
                    ·intro w'
                     go_simp
                     with_reducible rfl
                    rotate_left
                    ·simp only [Act.put, List.setIfInBounds_toArray, List.set_cons_zero, List.set_cons_succ, i64_w, i32_w]
                     rfl
                    refine pure_ (i := 5) (N := some 184) (v := ?_) (a' := ?_) #[false, true, false, true, true, true, false, false, false, false, false, false] rfl rfl (any_of HT_.out (by kernel_rfl)) (fun _ _ _ h => h) (Or.inl ⟨by rfl, ?_⟩) ?_ ?_
                    rotate_left
                    ·intro w'
                     go_simp
                     with_reducible rfl
                    rotate_left
                    ·simp only [Act.put, List.setIfInBounds_toArray, List.set_cons_zero, List.set_cons_succ, i64_w, i32_w]
                     rfl
                    refine pure_ (i := 6) (N := some 185) (v := ?_) (a' := ?_) #[false, true, false, true, true, true, true, false, false, false, false, false] rfl rfl (any_of HT_.out (by kernel_rfl)) (fun _ _ _ h => h) (Or.inl ⟨by rfl, ?_⟩) ?_ ?_
                    rotate_left
                    ·intro w'
                     go_simp
                     with_reducible rfl
                    rotate_left
                    ·simp only [Act.put, List.setIfInBounds_toArray, List.set_cons_zero, List.set_cons_succ, i64_w, i32_w]
                     rfl
                    refine take_ (i := 7) (N := some 186) (v := ?_) (a' := ?_) #[false, true, false, true, true, true, true, true, false, false, false, false] rfl rfl (take_ofW HT_.out HW_.out (by kernel_rfl)) (fun _ _ _ h => h) (Or.inl ⟨by rfl, ?_⟩) hHeld ?_ ?_
                    rotate_left
                    ·rintro w' ⟨s0, s1⟩
                     go_simp
                     with_reducible rfl
                    rotate_left
                    ·simp only [Act.put, List.setIfInBounds_toArray, List.set_cons_zero, List.set_cons_succ, i64_w, i32_w]
                     rfl
                    refine pure_ (i := 8) (N := some 187) (v := ?_) (a' := ?_) #[false, true, false, true, true, true, true, true, true, false, false, false] rfl rfl (any_of HT_.out (by kernel_rfl)) (fun _ _ _ h => h) (Or.inl ⟨by rfl, ?_⟩) ?_ ?_
                    rotate_left
                    ·intro w'
                     go_simp
                     with_reducible rfl
                    rotate_left
                    ·simp only [Act.put, List.setIfInBounds_toArray, List.set_cons_zero, List.set_cons_succ, i64_w, i32_w]
                     rfl
                    refine join_ (σ := Value × Value × Value) 2 #[true, true, true, true, true, true, true, true, true, true, false, false] (fun s_ => [(179, s_.1), (181, s_.2.1), (188, s_.2.2)]) (fun s_ w' => (w'.cell? (ad433.add ((t392).toNat * 2)) = some (.int .i64 ((rd_T62 t384 t392).f0)) ∧ w'.cell? ⟨(ad433.add ((t392).toNat * 2)).block, (ad433.add ((t392).toNat * 2)).off + 1, none⟩ = some (.int .i64 ((rd_T62 t384 t392).f1))) ∧ (Kd.R k64 64 w' w.heap.size (fun k_ => some k_ ≠ (s_.2.2 : Value).ownBlock ∧ some k_ ≠ (.slice Ao14 t383.length co14 : Value).ownBlock) s_.2.1 y430) ∧ (Kd.R k64 64 w' w.heap.size (fun k_ => some k_ ≠ (s_.2.1 : Value).ownBlock ∧ some k_ ≠ (.slice Ao14 t383.length co14 : Value).ownBlock) s_.2.2 y434) ∧ (Kd.R (Kd.int .i64) 2 w' w.heap.size (fun _ => True) u23 x23_4) ∧ (Kd.R k64 64 w' w.heap.size (fun k_ => some k_ ≠ (s_.2.1 : Value).ownBlock ∧ some k_ ≠ (s_.2.2 : Value).ownBlock) (.slice Ao14 t383.length co14) t383) ∧ (Kd.R k62 62 w' w.heap.size (fun _ => True) (.slice (some ad433) t384.length co15) t384) ∧ (Below w.heap.size w w')) ?_ ?_
                    rotate_left
                    ·intro hCont
                     refine two_ (i := 0) (j := 9) (Ni := some 179) (Nj := some 188) #[true, true, false, true, true, true, true, true, true, false, false, false] #[false, true, false, true, true, true, true, true, true, true, false, false] rfl rfl rfl rfl (two_of HT_.out (by kernel_rfl)) (by decide) (by decide) (fun K hK => ?_) (fun K hK => ?_)
                     ·skip
                      refine Kd.R_lit_step k64 _ 64 ?hg (N := 179) ?hd (xs := ([] : List (S64))) (inner := []) (ok := fun _ => True) (okp := fun _ => True) ?hr ?hp (fun _ hk => hk) trivial (Below.refl _ _) (Nat.le_refl _) (by simp) ?_; (case hd => rfl); (case hg => rfl); (case hr => first | (go_simp; done) | (go_simp; rfl)); (case hp => exact (Reps.none _ _))
                      intro v428 w86 ho87 hb hg_ hnew_
                      have HS0_ := (hb.cell (World.block_lt_of_cell? _ _ (hHeld.1))).trans (hHeld.1)
                      have HS1_ := (hb.cell (World.block_lt_of_cell? _ _ (hHeld.2))).trans (hHeld.2)
                      clear hg_ hnew_
                      (first | rw [← Ny427.out] at ho87 | (simp only [Int.reduceToNat] at ho87; rw [← Ny427.out] at ho87))
                      have n0_ := aa (Kd.R_elder' (by (with_reducible repeat (first | apply af | apply ag | apply ah)); exact HO_3.out) (Kd.R_base ho87) hb)
                      have n1_ := aa (ax (by (with_reducible repeat (first | apply af | apply ag | apply ah)); exact HO_4.out) hb)
                      have n2_ := aa (ax (by (with_reducible repeat (first | apply af | apply ag | apply ah)); exact HO_23.out) hb)
                      have n3_ := aa (bg (Kd.R_new' ho87 (Kd.R_lt (by (with_reducible repeat (first | apply af | apply ag | apply ah)); exact HO_3.out))) (aw (by repeat (first | (with_reducible first | exact HB.out | apply ae | apply ab | apply ac) | exact HB.out))))
                      have n4_ := aa (ap (by repeat (first | (with_reducible first | exact HB.out | apply ae | apply ab | apply ac) | exact HB.out)) hb)
                      clear HO_3
                      clear HO_4
                      clear HO_23
                      clear HB
                      have HO_3 := n0_
                      have HO_4 := n1_
                      have HO_23 := n2_
                      have HO429 := n3_
                      have HB := n4_
                      clear n0_ n1_ n2_ n3_ n4_
                      clear hb ho87
                      refine hK.out _ _ ⟨HS0_, HS1_⟩ (fun hHeld => ?_)
                      clear hK K
                      refine norm_ (a' := ?_) ?_ ?_
                      rotate_left
                      ·show Act.put _ (some 179) _ = _
                       simp only [Act.put, List.setIfInBounds_toArray, List.set_cons_zero, List.set_cons_succ, i64_w, i32_w]
                       rfl
                      refine two_ (i := 2) (j := 9) (Ni := some 181) (Nj := some 188) #[true, true, true, true, true, true, true, true, true, false, false, false] #[true, true, false, true, true, true, true, true, true, true, false, false] rfl rfl rfl rfl (two_of HT_.out (by kernel_rfl)) (by decide) (by decide) (fun K hK => ?_) (fun K hK => ?_)
                      ·skip
                       refine Kd.R_append_rows_step k64 (w0 := w) w.heap.size (by rfl) (.tmp 179) (.tmp 180) 40 64 (.agg #[(.int .i64 0), (.int .i64 0), (.int .i64 0)]) 24 rfl Try.underlying40 info64 rfl (by decide) (by omega) v428 y427 t383 _ _ _ (fun k_ => some k_ ≠ (.slice Ao14 t383.length co14 : Value).ownBlock) (fun _ => False) rfl rfl ?aO ?aR (fun _ _ h => h) (fun _ h => h.elim) ?aF ?aB ?aS ?aL ?_
                       (case aR => repeat (first | exact (an HO_3.out).2.2 | (with_reducible refine ay ?_ _) | (with_reducible refine az ?_ _) | (with_reducible refine ba ?_)))
                       (case aB => exact (by repeat (first | (with_reducible first | exact HB.out | apply ae | apply ab | apply ac) | exact HB.out)))
                       (case aF => exact (fun k_ hk => Kd.fresh' (Kd.R_lt (by (with_reducible repeat (first | apply af | apply ag | apply ah)); exact HO_3.out)) k_ hk))
                       (case aO => exact (by (with_reducible repeat (first | apply af | apply ag | apply ah)); exact av HO429.out (fun _ hk => hk.2)))
                       (case aS => exact (aw (by repeat (first | (with_reducible first | exact HB.out | apply ae | apply ab | apply ac) | exact HB.out))))
                       (case aL => have := LMc79.out; omega)
                       intro v431 w88 ho hb hg hat
                       have HS0_ := cell_grown hg (hHeld.1) (by first | (rw [add_block]; exact (fun e_ => ((bk (HO429.out) (bd HO_4.out) (by decide)).1 _ e_.symm).2 rfl)) | (show some (Addr.add _ _).block ≠ _; rw [add_block]; exact (fun e_ => ((bk (HO429.out) (bd HO_4.out) (by decide)).1 _ e_.symm).2 rfl)) | exact (fun e_ => ((bk (HO429.out) (bd HO_4.out) (by decide)).1 _ e_.symm).2 rfl))
                       have HS1_ := cell_grown hg (hHeld.2) (by first | (rw [add_block]; exact (fun e_ => ((bk (HO429.out) (bd HO_4.out) (by decide)).1 _ e_.symm).2 rfl)) | (show some (Addr.add _ _).block ≠ _; rw [add_block]; exact (fun e_ => ((bk (HO429.out) (bd HO_4.out) (by decide)).1 _ e_.symm).2 rfl)) | exact (fun e_ => ((bk (HO429.out) (bd HO_4.out) (by decide)).1 _ e_.symm).2 rfl))
                       rw [← Ny430.out] at ho
                       have n0_ := aa (Kd.R_after (ok := (fun _ => True)) (by (with_reducible repeat (first | apply af | apply ag | apply ah)); exact HO_3.out) hg hat)
                       have n1_ := aa (Kd.R_over' (by (with_reducible repeat (first | apply af | apply ag | apply ah)); exact HO_4.out) (bd (by (with_reducible repeat (first | apply af | apply ag | apply ah)); exact HO429.out)) (by decide) hg)
                       have n2_ := aa (Kd.R_over' (by (with_reducible repeat (first | apply af | apply ag | apply ah)); exact HO_23.out) (bd (by (with_reducible repeat (first | apply af | apply ag | apply ah)); exact HO429.out)) (by decide) hg)
                       have n3_ := aa (hb)
                       have n4_ := aa (ho)
                       clear HO_3
                       clear HO_4
                       clear HO_23
                       clear HB
                       clear HO429
                       have HO_3 := n0_
                       have HO_4 := n1_
                       have HO_23 := n2_
                       have HB := n3_
                       have HO432 := n4_
                       clear n0_ n1_ n2_ n3_ n4_
                       clear ho hb hg hat
                       refine hK.out _ _ ⟨HS0_, HS1_⟩ (fun hHeld => ?_)
                       clear hK K
                       refine norm_ (a' := ?_) ?_ ?_
                       rotate_left
                       ·show Act.put _ (some 181) _ = _
                        simp only [Act.put, List.setIfInBounds_toArray, List.set_cons_zero, List.set_cons_succ, i64_w, i32_w]
                        rfl
                       refine one_ (i := 9) (N := some 188) #[true, true, true, true, true, true, true, true, true, true, false, false] rfl rfl (one_of HT_.out (by kernel_rfl)) (by decide) (fun K hK => ?_)
                       refine Kd.R_lit_step k64 _ 64 ?hg (N := 188) ?hd (xs := ([(⟨(wrap64 (t393 + x24_4)), (⟨(rd_T62 t384 t392).f0, (rd_T62 t384 t392).f1⟩ : S62)⟩ : S64)] : List (S64))) (inner := [.int .i64 (wrap64 (t393 + x24_4)), .int .i64 ((rd_T62 t384 t392).f0), .int .i64 ((rd_T62 t384 t392).f1)]) (ok := fun _ => True) (okp := fun _ => True) ?hr ?hp (fun _ hk => hk) trivial (Below.refl _ _) (Nat.le_refl _) (by simp) ?_; (case hd => rfl); (case hg => rfl); (case hr => first | (go_simp; done) | (go_simp; rfl)); (case hp => exact (Reps.c3 (show Kd.M k64 _ _ _ (⟨(wrap64 (t393 + x24_4)), (⟨(rd_T62 t384 t392).f0, (rd_T62 t384 t392).f1⟩ : S62)⟩ : S64) [.int .i64 (wrap64 (t393 + x24_4)), .int .i64 ((rd_T62 t384 t392).f0), .int .i64 ((rd_T62 t384 t392).f1)] from (k64_mkM _ _ _ (⟨(wrap64 (t393 + x24_4)), (⟨(rd_T62 t384 t392).f0, (rd_T62 t384 t392).f1⟩ : S62)⟩ : S64) )) (Reps.none _ _)))
                       intro v435 w89 ho90 hb hg_ hnew_
                       have HS0_ := (hb.cell (World.block_lt_of_cell? _ _ (hHeld.1))).trans (hHeld.1)
                       have HS1_ := (hb.cell (World.block_lt_of_cell? _ _ (hHeld.2))).trans (hHeld.2)
                       clear hg_ hnew_
                       (first | rw [← Ny434.out] at ho90 | (simp only [Int.reduceToNat] at ho90; rw [← Ny434.out] at ho90))
                       have n0_ := aa (Kd.R_elder' (by (with_reducible repeat (first | apply af | apply ag | apply ah)); exact HO_3.out) (Kd.R_base ho90) hb)
                       have n1_ := aa (ax (by (with_reducible repeat (first | apply af | apply ag | apply ah)); exact HO_4.out) hb)
                       have n2_ := aa (ax (by (with_reducible repeat (first | apply af | apply ag | apply ah)); exact HO_23.out) hb)
                       have n3_ := aa (Kd.R_elder' (by (with_reducible repeat (first | apply af | apply ag | apply ah)); exact HO432.out) (Kd.R_base ho90) hb)
                       have n4_ := aa (bg (Kd.R_new' (Kd.R_new' ho90 (Kd.R_lt (by (with_reducible repeat (first | apply af | apply ag | apply ah)); exact HO_3.out))) (Kd.R_lt (by (with_reducible repeat (first | apply af | apply ag | apply ah)); exact HO432.out))) (aw (by repeat (first | (with_reducible first | exact HB.out | apply ae | apply ab | apply ac) | exact HB.out))))
                       have n5_ := aa (ap (by repeat (first | (with_reducible first | exact HB.out | apply ae | apply ab | apply ac) | exact HB.out)) hb)
                       clear HO_3
                       clear HO_4
                       clear HO_23
                       clear HO432
                       clear HB
                       have HO_3 := n0_
                       have HO_4 := n1_
                       have HO_23 := n2_
                       have HO432 := n3_
                       have HO436 := n4_
                       have HB := n5_
                       clear n0_ n1_ n2_ n3_ n4_ n5_
                       clear hb ho90
                       refine hK.out _ _ ⟨HS0_, HS1_⟩ (fun hHeld => ?_)
                       clear hK K
                       refine norm_ (a' := ?_) ?_ ?_
                       rotate_left
                       ·show Act.put _ (some 188) _ = _
                        simp only [Act.put, List.setIfInBounds_toArray, List.set_cons_zero, List.set_cons_succ, i64_w, i32_w]
                        rfl
                       exact norm_ (by simp only [putAll, Act.put, List.setIfInBounds_toArray, List.set_cons_zero, List.set_cons_succ]) (hCont (v428, v431, v435) _ ⟨hHeld, (by (with_reducible repeat (first | apply af | apply ag | apply ah)); exact av HO432.out (fun _ hk => ⟨hk.2, hk.1⟩)), (by (with_reducible repeat (first | apply af | apply ag | apply ah)); exact av HO436.out (fun _ hk => ⟨hk.2, hk.1.2⟩)), (by (with_reducible repeat (first | apply af | apply ag | apply ah)); exact HO_23.out), (by (with_reducible repeat (first | apply af | apply ag | apply ah)); exact av HO_3.out (fun _ hk => ⟨hk.1.2, hk.2⟩)), (by (with_reducible repeat (first | apply af | apply ag | apply ah)); exact HO_4.out), (by repeat (first | (with_reducible first | exact HB.out | apply ae | apply ab | apply ac) | exact HB.out))⟩)
                      ·skip
                       refine Kd.R_lit_step k64 _ 64 ?hg (N := 188) ?hd (xs := ([(⟨(wrap64 (t393 + x24_4)), (⟨(rd_T62 t384 t392).f0, (rd_T62 t384 t392).f1⟩ : S62)⟩ : S64)] : List (S64))) (inner := [.int .i64 (wrap64 (t393 + x24_4)), .int .i64 ((rd_T62 t384 t392).f0), .int .i64 ((rd_T62 t384 t392).f1)]) (ok := fun _ => True) (okp := fun _ => True) ?hr ?hp (fun _ hk => hk) trivial (Below.refl _ _) (Nat.le_refl _) (by simp) ?_; (case hd => rfl); (case hg => rfl); (case hr => first | (go_simp; done) | (go_simp; rfl)); (case hp => exact (Reps.c3 (show Kd.M k64 _ _ _ (⟨(wrap64 (t393 + x24_4)), (⟨(rd_T62 t384 t392).f0, (rd_T62 t384 t392).f1⟩ : S62)⟩ : S64) [.int .i64 (wrap64 (t393 + x24_4)), .int .i64 ((rd_T62 t384 t392).f0), .int .i64 ((rd_T62 t384 t392).f1)] from (k64_mkM _ _ _ (⟨(wrap64 (t393 + x24_4)), (⟨(rd_T62 t384 t392).f0, (rd_T62 t384 t392).f1⟩ : S62)⟩ : S64) )) (Reps.none _ _)))
                       intro v435 w88 ho89 hb hg_ hnew_
                       have HS0_ := (hb.cell (World.block_lt_of_cell? _ _ (hHeld.1))).trans (hHeld.1)
                       have HS1_ := (hb.cell (World.block_lt_of_cell? _ _ (hHeld.2))).trans (hHeld.2)
                       clear hg_ hnew_
                       (first | rw [← Ny434.out] at ho89 | (simp only [Int.reduceToNat] at ho89; rw [← Ny434.out] at ho89))
                       have n0_ := aa (Kd.R_elder' (by (with_reducible repeat (first | apply af | apply ag | apply ah)); exact HO_3.out) (Kd.R_base ho89) hb)
                       have n1_ := aa (ax (by (with_reducible repeat (first | apply af | apply ag | apply ah)); exact HO_4.out) hb)
                       have n2_ := aa (ax (by (with_reducible repeat (first | apply af | apply ag | apply ah)); exact HO_23.out) hb)
                       have n3_ := aa (Kd.R_elder' (by (with_reducible repeat (first | apply af | apply ag | apply ah)); exact HO429.out) (Kd.R_base ho89) hb)
                       have n4_ := aa (bg (Kd.R_new' (Kd.R_new' ho89 (Kd.R_lt (by (with_reducible repeat (first | apply af | apply ag | apply ah)); exact HO_3.out))) (Kd.R_lt (by (with_reducible repeat (first | apply af | apply ag | apply ah)); exact HO429.out))) (aw (by repeat (first | (with_reducible first | exact HB.out | apply ae | apply ab | apply ac) | exact HB.out))))
                       have n5_ := aa (ap (by repeat (first | (with_reducible first | exact HB.out | apply ae | apply ab | apply ac) | exact HB.out)) hb)
                       clear HO_3
                       clear HO_4
                       clear HO_23
                       clear HO429
                       clear HB
                       have HO_3 := n0_
                       have HO_4 := n1_
                       have HO_23 := n2_
                       have HO429 := n3_
                       have HO436 := n4_
                       have HB := n5_
                       clear n0_ n1_ n2_ n3_ n4_ n5_
                       clear hb ho89
                       refine hK.out _ _ ⟨HS0_, HS1_⟩ (fun hHeld => ?_)
                       clear hK K
                       refine norm_ (a' := ?_) ?_ ?_
                       rotate_left
                       ·show Act.put _ (some 188) _ = _
                        simp only [Act.put, List.setIfInBounds_toArray, List.set_cons_zero, List.set_cons_succ, i64_w, i32_w]
                        rfl
                       refine one_ (i := 2) (N := some 181) #[true, true, true, true, true, true, true, true, true, true, false, false] rfl rfl (one_of HT_.out (by kernel_rfl)) (by decide) (fun K hK => ?_)
                       refine Kd.R_append_rows_step k64 (w0 := w) w.heap.size (by rfl) (.tmp 179) (.tmp 180) 40 64 (.agg #[(.int .i64 0), (.int .i64 0), (.int .i64 0)]) 24 rfl Try.underlying40 info64 rfl (by decide) (by omega) v428 y427 t383 _ _ _ (fun k_ => some k_ ≠ (.slice Ao14 t383.length co14 : Value).ownBlock ∧ some k_ ≠ (v435 : Value).ownBlock) (fun _ => False) rfl rfl ?aO ?aR (fun _ _ h => h) (fun _ h => h.elim) ?aF ?aB ?aS ?aL ?_
                       (case aR => repeat (first | exact (an HO_3.out).2.2 | (with_reducible refine ay ?_ _) | (with_reducible refine az ?_ _) | (with_reducible refine ba ?_)))
                       (case aB => exact (by repeat (first | (with_reducible first | exact HB.out | apply ae | apply ab | apply ac) | exact HB.out)))
                       (case aF => exact (fun k_ hk => ⟨Kd.fresh' (Kd.R_lt (by (with_reducible repeat (first | apply af | apply ag | apply ah)); exact HO_3.out)) k_ hk, Kd.fresh' (Kd.R_lt (by (with_reducible repeat (first | apply af | apply ag | apply ah)); exact HO436.out)) k_ hk⟩))
                       (case aO => exact (by (with_reducible repeat (first | apply af | apply ag | apply ah)); exact av HO429.out (fun _ hk => ⟨hk.1.2, hk.2⟩)))
                       (case aS => exact (aw (by repeat (first | (with_reducible first | exact HB.out | apply ae | apply ab | apply ac) | exact HB.out))))
                       (case aL => have := LMc79.out; omega)
                       intro v431 w90 ho hb hg hat
                       have HS0_ := cell_grown hg (hHeld.1) (by first | (rw [add_block]; exact (fun e_ => ((bk (HO429.out) (bd HO_4.out) (by decide)).1 _ e_.symm).2 rfl)) | (show some (Addr.add _ _).block ≠ _; rw [add_block]; exact (fun e_ => ((bk (HO429.out) (bd HO_4.out) (by decide)).1 _ e_.symm).2 rfl)) | exact (fun e_ => ((bk (HO429.out) (bd HO_4.out) (by decide)).1 _ e_.symm).2 rfl))
                       have HS1_ := cell_grown hg (hHeld.2) (by first | (rw [add_block]; exact (fun e_ => ((bk (HO429.out) (bd HO_4.out) (by decide)).1 _ e_.symm).2 rfl)) | (show some (Addr.add _ _).block ≠ _; rw [add_block]; exact (fun e_ => ((bk (HO429.out) (bd HO_4.out) (by decide)).1 _ e_.symm).2 rfl)) | exact (fun e_ => ((bk (HO429.out) (bd HO_4.out) (by decide)).1 _ e_.symm).2 rfl))
                       rw [← Ny430.out] at ho
                       have n0_ := aa (Kd.R_after (ok := (fun k_ => some k_ ≠ (v435 : Value).ownBlock)) (by (with_reducible repeat (first | apply af | apply ag | apply ah)); exact av HO_3.out (fun _ hk => ⟨hk.2, hk.1.2⟩)) hg hat)
                       have n1_ := aa (Kd.R_over' (by (with_reducible repeat (first | apply af | apply ag | apply ah)); exact HO_4.out) (bd (by (with_reducible repeat (first | apply af | apply ag | apply ah)); exact HO429.out)) (by decide) hg)
                       have n2_ := aa (Kd.R_over' (by (with_reducible repeat (first | apply af | apply ag | apply ah)); exact HO_23.out) (bd (by (with_reducible repeat (first | apply af | apply ag | apply ah)); exact HO429.out)) (by decide) hg)
                       have n3_ := aa (Kd.R_after (ok := (fun k_ => some k_ ≠ (.slice Ao14 t383.length co14 : Value).ownBlock)) (by (with_reducible repeat (first | apply af | apply ag | apply ah)); exact av HO436.out (fun _ hk => ⟨hk.1.2, hk.2⟩)) hg hat)
                       have n4_ := aa (hb)
                       have n5_ := aa (ho)
                       clear HO_3
                       clear HO_4
                       clear HO_23
                       clear HO436
                       clear HB
                       clear HO429
                       have HO_3 := n0_
                       have HO_4 := n1_
                       have HO_23 := n2_
                       have HO436 := n3_
                       have HB := n4_
                       have HO432 := n5_
                       clear n0_ n1_ n2_ n3_ n4_ n5_
                       clear ho hb hg hat
                       refine hK.out _ _ ⟨HS0_, HS1_⟩ (fun hHeld => ?_)
                       clear hK K
                       refine norm_ (a' := ?_) ?_ ?_
                       rotate_left
                       ·show Act.put _ (some 181) _ = _
                        simp only [Act.put, List.setIfInBounds_toArray, List.set_cons_zero, List.set_cons_succ, i64_w, i32_w]
                        rfl
                       exact norm_ (by simp only [putAll, Act.put, List.setIfInBounds_toArray, List.set_cons_zero, List.set_cons_succ]) (hCont (v428, v431, v435) _ ⟨hHeld, (by (with_reducible repeat (first | apply af | apply ag | apply ah)); exact av HO432.out (fun _ hk => ⟨hk.2, hk.1⟩)), (by (with_reducible repeat (first | apply af | apply ag | apply ah)); exact av HO436.out (fun _ hk => ⟨hk.2, hk.1⟩)), (by (with_reducible repeat (first | apply af | apply ag | apply ah)); exact HO_23.out), (by (with_reducible repeat (first | apply af | apply ag | apply ah)); exact av HO_3.out (fun _ hk => ⟨hk.2, hk.1⟩)), (by (with_reducible repeat (first | apply af | apply ag | apply ah)); exact HO_4.out), (by repeat (first | (with_reducible first | exact HB.out | apply ae | apply ab | apply ac) | exact HB.out))⟩)
                     ·skip
                      refine Kd.R_lit_step k64 _ 64 ?hg (N := 188) ?hd (xs := ([(⟨(wrap64 (t393 + x24_4)), (⟨(rd_T62 t384 t392).f0, (rd_T62 t384 t392).f1⟩ : S62)⟩ : S64)] : List (S64))) (inner := [.int .i64 (wrap64 (t393 + x24_4)), .int .i64 ((rd_T62 t384 t392).f0), .int .i64 ((rd_T62 t384 t392).f1)]) (ok := fun _ => True) (okp := fun _ => True) ?hr ?hp (fun _ hk => hk) trivial (Below.refl _ _) (Nat.le_refl _) (by simp) ?_; (case hd => rfl); (case hg => rfl); (case hr => first | (go_simp; done) | (go_simp; rfl)); (case hp => exact (Reps.c3 (show Kd.M k64 _ _ _ (⟨(wrap64 (t393 + x24_4)), (⟨(rd_T62 t384 t392).f0, (rd_T62 t384 t392).f1⟩ : S62)⟩ : S64) [.int .i64 (wrap64 (t393 + x24_4)), .int .i64 ((rd_T62 t384 t392).f0), .int .i64 ((rd_T62 t384 t392).f1)] from (k64_mkM _ _ _ (⟨(wrap64 (t393 + x24_4)), (⟨(rd_T62 t384 t392).f0, (rd_T62 t384 t392).f1⟩ : S62)⟩ : S64) )) (Reps.none _ _)))
                      intro v435 w86 ho87 hb hg_ hnew_
                      have HS0_ := (hb.cell (World.block_lt_of_cell? _ _ (hHeld.1))).trans (hHeld.1)
                      have HS1_ := (hb.cell (World.block_lt_of_cell? _ _ (hHeld.2))).trans (hHeld.2)
                      clear hg_ hnew_
                      (first | rw [← Ny434.out] at ho87 | (simp only [Int.reduceToNat] at ho87; rw [← Ny434.out] at ho87))
                      have n0_ := aa (Kd.R_elder' (by (with_reducible repeat (first | apply af | apply ag | apply ah)); exact HO_3.out) (Kd.R_base ho87) hb)
                      have n1_ := aa (ax (by (with_reducible repeat (first | apply af | apply ag | apply ah)); exact HO_4.out) hb)
                      have n2_ := aa (ax (by (with_reducible repeat (first | apply af | apply ag | apply ah)); exact HO_23.out) hb)
                      have n3_ := aa (bg (Kd.R_new' ho87 (Kd.R_lt (by (with_reducible repeat (first | apply af | apply ag | apply ah)); exact HO_3.out))) (aw (by repeat (first | (with_reducible first | exact HB.out | apply ae | apply ab | apply ac) | exact HB.out))))
                      have n4_ := aa (ap (by repeat (first | (with_reducible first | exact HB.out | apply ae | apply ab | apply ac) | exact HB.out)) hb)
                      clear HO_3
                      clear HO_4
                      clear HO_23
                      clear HB
                      have HO_3 := n0_
                      have HO_4 := n1_
                      have HO_23 := n2_
                      have HO436 := n3_
                      have HB := n4_
                      clear n0_ n1_ n2_ n3_ n4_
                      clear hb ho87
                      refine hK.out _ _ ⟨HS0_, HS1_⟩ (fun hHeld => ?_)
                      clear hK K
                      refine norm_ (a' := ?_) ?_ ?_
                      rotate_left
                      ·show Act.put _ (some 188) _ = _
                       simp only [Act.put, List.setIfInBounds_toArray, List.set_cons_zero, List.set_cons_succ, i64_w, i32_w]
                       rfl
                      refine one_ (i := 0) (N := some 179) #[true, true, false, true, true, true, true, true, true, true, false, false] rfl rfl (one_of HT_.out (by kernel_rfl)) (by decide) (fun K hK => ?_)
                      refine Kd.R_lit_step k64 _ 64 ?hg (N := 179) ?hd (xs := ([] : List (S64))) (inner := []) (ok := fun _ => True) (okp := fun _ => True) ?hr ?hp (fun _ hk => hk) trivial (Below.refl _ _) (Nat.le_refl _) (by simp) ?_; (case hd => rfl); (case hg => rfl); (case hr => first | (go_simp; done) | (go_simp; rfl)); (case hp => exact (Reps.none _ _))
                      intro v428 w88 ho89 hb hg_ hnew_
                      have HS0_ := (hb.cell (World.block_lt_of_cell? _ _ (hHeld.1))).trans (hHeld.1)
                      have HS1_ := (hb.cell (World.block_lt_of_cell? _ _ (hHeld.2))).trans (hHeld.2)
                      clear hg_ hnew_
                      (first | rw [← Ny427.out] at ho89 | (simp only [Int.reduceToNat] at ho89; rw [← Ny427.out] at ho89))
                      have n0_ := aa (Kd.R_elder' (by (with_reducible repeat (first | apply af | apply ag | apply ah)); exact HO_3.out) (Kd.R_base ho89) hb)
                      have n1_ := aa (ax (by (with_reducible repeat (first | apply af | apply ag | apply ah)); exact HO_4.out) hb)
                      have n2_ := aa (ax (by (with_reducible repeat (first | apply af | apply ag | apply ah)); exact HO_23.out) hb)
                      have n3_ := aa (Kd.R_elder' (by (with_reducible repeat (first | apply af | apply ag | apply ah)); exact HO436.out) (Kd.R_base ho89) hb)
                      have n4_ := aa (bg (Kd.R_new' (Kd.R_new' ho89 (Kd.R_lt (by (with_reducible repeat (first | apply af | apply ag | apply ah)); exact HO_3.out))) (Kd.R_lt (by (with_reducible repeat (first | apply af | apply ag | apply ah)); exact HO436.out))) (aw (by repeat (first | (with_reducible first | exact HB.out | apply ae | apply ab | apply ac) | exact HB.out))))
                      have n5_ := aa (ap (by repeat (first | (with_reducible first | exact HB.out | apply ae | apply ab | apply ac) | exact HB.out)) hb)
                      clear HO_3
                      clear HO_4
                      clear HO_23
                      clear HO436
                      clear HB
                      have HO_3 := n0_
                      have HO_4 := n1_
                      have HO_23 := n2_
                      have HO436 := n3_
                      have HO429 := n4_
                      have HB := n5_
                      clear n0_ n1_ n2_ n3_ n4_ n5_
                      clear hb ho89
                      refine hK.out _ _ ⟨HS0_, HS1_⟩ (fun hHeld => ?_)
                      clear hK K
                      refine norm_ (a' := ?_) ?_ ?_
                      rotate_left
                      ·show Act.put _ (some 179) _ = _
                       simp only [Act.put, List.setIfInBounds_toArray, List.set_cons_zero, List.set_cons_succ, i64_w, i32_w]
                       rfl
                      refine one_ (i := 2) (N := some 181) #[true, true, true, true, true, true, true, true, true, true, false, false] rfl rfl (one_of HT_.out (by kernel_rfl)) (by decide) (fun K hK => ?_)
                      refine Kd.R_append_rows_step k64 (w0 := w) w.heap.size (by rfl) (.tmp 179) (.tmp 180) 40 64 (.agg #[(.int .i64 0), (.int .i64 0), (.int .i64 0)]) 24 rfl Try.underlying40 info64 rfl (by decide) (by omega) v428 y427 t383 _ _ _ (fun k_ => some k_ ≠ (.slice Ao14 t383.length co14 : Value).ownBlock ∧ some k_ ≠ (v435 : Value).ownBlock) (fun _ => False) rfl rfl ?aO ?aR (fun _ _ h => h) (fun _ h => h.elim) ?aF ?aB ?aS ?aL ?_
                      (case aR => repeat (first | exact (an HO_3.out).2.2 | (with_reducible refine ay ?_ _) | (with_reducible refine az ?_ _) | (with_reducible refine ba ?_)))
                      (case aB => exact (by repeat (first | (with_reducible first | exact HB.out | apply ae | apply ab | apply ac) | exact HB.out)))
                      (case aF => exact (fun k_ hk => ⟨Kd.fresh' (Kd.R_lt (by (with_reducible repeat (first | apply af | apply ag | apply ah)); exact HO_3.out)) k_ hk, Kd.fresh' (Kd.R_lt (by (with_reducible repeat (first | apply af | apply ag | apply ah)); exact HO436.out)) k_ hk⟩))
                      (case aO => exact (by (with_reducible repeat (first | apply af | apply ag | apply ah)); exact av HO429.out (fun _ hk => ⟨hk.1.2, hk.2⟩)))
                      (case aS => exact (aw (by repeat (first | (with_reducible first | exact HB.out | apply ae | apply ab | apply ac) | exact HB.out))))
                      (case aL => have := LMc79.out; omega)
                      intro v431 w90 ho hb hg hat
                      have HS0_ := cell_grown hg (hHeld.1) (by first | (rw [add_block]; exact (fun e_ => ((bk (HO429.out) (bd HO_4.out) (by decide)).1 _ e_.symm).2 rfl)) | (show some (Addr.add _ _).block ≠ _; rw [add_block]; exact (fun e_ => ((bk (HO429.out) (bd HO_4.out) (by decide)).1 _ e_.symm).2 rfl)) | exact (fun e_ => ((bk (HO429.out) (bd HO_4.out) (by decide)).1 _ e_.symm).2 rfl))
                      have HS1_ := cell_grown hg (hHeld.2) (by first | (rw [add_block]; exact (fun e_ => ((bk (HO429.out) (bd HO_4.out) (by decide)).1 _ e_.symm).2 rfl)) | (show some (Addr.add _ _).block ≠ _; rw [add_block]; exact (fun e_ => ((bk (HO429.out) (bd HO_4.out) (by decide)).1 _ e_.symm).2 rfl)) | exact (fun e_ => ((bk (HO429.out) (bd HO_4.out) (by decide)).1 _ e_.symm).2 rfl))
                      rw [← Ny430.out] at ho
                      have n0_ := aa (Kd.R_after (ok := (fun k_ => some k_ ≠ (v435 : Value).ownBlock)) (by (with_reducible repeat (first | apply af | apply ag | apply ah)); exact av HO_3.out (fun _ hk => ⟨hk.1.2, hk.2⟩)) hg hat)
                      have n1_ := aa (Kd.R_over' (by (with_reducible repeat (first | apply af | apply ag | apply ah)); exact HO_4.out) (bd (by (with_reducible repeat (first | apply af | apply ag | apply ah)); exact HO429.out)) (by decide) hg)
                      have n2_ := aa (Kd.R_over' (by (with_reducible repeat (first | apply af | apply ag | apply ah)); exact HO_23.out) (bd (by (with_reducible repeat (first | apply af | apply ag | apply ah)); exact HO429.out)) (by decide) hg)
                      have n3_ := aa (Kd.R_after (ok := (fun k_ => some k_ ≠ (.slice Ao14 t383.length co14 : Value).ownBlock)) (by (with_reducible repeat (first | apply af | apply ag | apply ah)); exact av HO436.out (fun _ hk => ⟨hk.1.2, hk.2⟩)) hg hat)
                      have n4_ := aa (hb)
                      have n5_ := aa (ho)
                      clear HO_3
                      clear HO_4
                      clear HO_23
                      clear HO436
                      clear HB
                      clear HO429
                      have HO_3 := n0_
                      have HO_4 := n1_
                      have HO_23 := n2_
                      have HO436 := n3_
                      have HB := n4_
                      have HO432 := n5_
                      clear n0_ n1_ n2_ n3_ n4_ n5_
                      clear ho hb hg hat
                      refine hK.out _ _ ⟨HS0_, HS1_⟩ (fun hHeld => ?_)
                      clear hK K
                      refine norm_ (a' := ?_) ?_ ?_
                      rotate_left
                      ·show Act.put _ (some 181) _ = _
                       simp only [Act.put, List.setIfInBounds_toArray, List.set_cons_zero, List.set_cons_succ, i64_w, i32_w]
                       rfl
                      exact norm_ (by simp only [putAll, Act.put, List.setIfInBounds_toArray, List.set_cons_zero, List.set_cons_succ]) (hCont (v428, v431, v435) _ ⟨hHeld, (by (with_reducible repeat (first | apply af | apply ag | apply ah)); exact av HO432.out (fun _ hk => ⟨hk.2, hk.1⟩)), (by (with_reducible repeat (first | apply af | apply ag | apply ah)); exact av HO436.out (fun _ hk => ⟨hk.2, hk.1⟩)), (by (with_reducible repeat (first | apply af | apply ag | apply ah)); exact HO_23.out), (by (with_reducible repeat (first | apply af | apply ag | apply ah)); exact av HO_3.out (fun _ hk => ⟨hk.2, hk.1⟩)), (by (with_reducible repeat (first | apply af | apply ag | apply ah)); exact HO_4.out), (by repeat (first | (with_reducible first | exact HB.out | apply ae | apply ab | apply ac) | exact HB.out))⟩)
                    rintro ⟨v428, v431, v435⟩ w91 ⟨hS_, h0_, h1_, h2_, h3_, h4_, h5_⟩
                    have n0_ : Aside0 (Kd.R k64 64 w91 w.heap.size (fun k_ => some k_ ≠ (v435 : Value).ownBlock ∧ some k_ ≠ (.slice Ao14 t383.length co14 : Value).ownBlock) v431 y430) := ⟨h0_⟩
                    have n1_ : Aside0 (Kd.R k64 64 w91 w.heap.size (fun k_ => some k_ ≠ (v431 : Value).ownBlock ∧ some k_ ≠ (.slice Ao14 t383.length co14 : Value).ownBlock) v435 y434) := ⟨h1_⟩
                    have n2_ : Aside0 (Kd.R (Kd.int .i64) 2 w91 w.heap.size (fun _ => True) u23 x23_4) := ⟨h2_⟩
                    have n3_ : Aside0 (Kd.R k64 64 w91 w.heap.size (fun k_ => some k_ ≠ (v431 : Value).ownBlock ∧ some k_ ≠ (v435 : Value).ownBlock) (.slice Ao14 t383.length co14) t383) := ⟨h3_⟩
                    have n4_ : Aside0 (Kd.R k62 62 w91 w.heap.size (fun _ => True) (.slice (some ad433) t384.length co15) t384) := ⟨h4_⟩
                    have n5_ : Aside0 (Below w.heap.size w w91) := ⟨h5_⟩
                    clear HO_3
                    clear HO_4
                    clear HO_23
                    clear HB
                    clear h0_ h1_ h2_ h3_ h4_ h5_
                    have HO432 := n0_
                    have HO436 := n1_
                    have HO_23 := n2_
                    have HO_3 := n3_
                    have HO_4 := n4_
                    have HB := n5_
                    clear n0_ n1_ n2_ n3_ n4_ n5_
                    have hHeld : w91.cell? (ad433.add ((t392).toNat * 2)) = some (.int .i64 ((rd_T62 t384 t392).f0)) ∧ w91.cell? ⟨(ad433.add ((t392).toNat * 2)).block, (ad433.add ((t392).toNat * 2)).off + 1, none⟩ = some (.int .i64 ((rd_T62 t384 t392).f1)) := hS_
                    obtain ⟨Ao93, co93, eo93⟩ := bc HO436.out
                    (first | subst eo93 | (injection eo93 with f1_ f2_ f3_; have f4_ := f1_.symm; have f5_ := f3_.symm; clear f1_ f2_ f3_; subst f4_; subst f5_))
                    refine norm_ (a' := ?_) ?_ ?_
                    rotate_left
                    ·simp only [putAll, Act.put, List.setIfInBounds_toArray, List.set_cons_zero, List.set_cons_succ]
                     rfl
                    refine one_ (i := 10) (N := some 189) #[true, true, true, true, true, true, true, true, true, true, true, false] rfl rfl (one_of HT_.out (by kernel_rfl)) (by decide) (fun K hK => ?_)
                    refine Kd.R_append_rows_step k64 (w0 := w) w.heap.size (by rfl) (.tmp 181) (.tmp 188) 40 64 (.agg #[(.int .i64 0), (.int .i64 0), (.int .i64 0)]) 24 rfl Try.underlying40 info64 rfl (by decide) (by omega) v431 y430 y434 _ _ _ (fun k_ => some k_ ≠ (.slice Ao14 t383.length co14 : Value).ownBlock ∧ some k_ ≠ (.slice Ao93 y434.length co93 : Value).ownBlock) (fun _ => False) rfl rfl ?aO ?aR (fun _ _ h => h) (fun _ h => h.elim) ?aF ?aB ?aS ?aL ?_
                    (case aR => repeat (first | exact (an HO436.out).2.2 | (with_reducible refine ay ?_ _) | (with_reducible refine az ?_ _) | (with_reducible refine ba ?_)))
                    (case aB => exact (by repeat (first | (with_reducible first | exact HB.out | apply ae | apply ab | apply ac) | exact HB.out)))
                    (case aF => exact (fun k_ hk => ⟨Kd.fresh' (Kd.R_lt (by (with_reducible repeat (first | apply af | apply ag | apply ah)); exact HO_3.out)) k_ hk, Kd.fresh' (Kd.R_lt (by (with_reducible repeat (first | apply af | apply ag | apply ah)); exact HO436.out)) k_ hk⟩))
                    (case aO => exact (by (with_reducible repeat (first | apply af | apply ag | apply ah)); exact av HO432.out (fun _ hk => ⟨hk.2, hk.1⟩)))
                    (case aS => exact (aw (by repeat (first | (with_reducible first | exact HB.out | apply ae | apply ab | apply ac) | exact HB.out))))
                    (case aL => have := LMc82.out; omega)
                    intro v438 w92 ho hb hg hat
                    have HS0_ := cell_grown hg (hHeld.1) (by first | (rw [add_block]; exact (fun e_ => ((bk (HO432.out) (bd HO_4.out) (by decide)).1 _ e_.symm).2 rfl)) | (show some (Addr.add _ _).block ≠ _; rw [add_block]; exact (fun e_ => ((bk (HO432.out) (bd HO_4.out) (by decide)).1 _ e_.symm).2 rfl)) | exact (fun e_ => ((bk (HO432.out) (bd HO_4.out) (by decide)).1 _ e_.symm).2 rfl))
                    have HS1_ := cell_grown hg (hHeld.2) (by first | (rw [add_block]; exact (fun e_ => ((bk (HO432.out) (bd HO_4.out) (by decide)).1 _ e_.symm).2 rfl)) | (show some (Addr.add _ _).block ≠ _; rw [add_block]; exact (fun e_ => ((bk (HO432.out) (bd HO_4.out) (by decide)).1 _ e_.symm).2 rfl)) | exact (fun e_ => ((bk (HO432.out) (bd HO_4.out) (by decide)).1 _ e_.symm).2 rfl))
                    rw [← Ny437.out] at ho
                    have n0_ := aa (Kd.R_after (ok := (fun k_ => some k_ ≠ (.slice Ao93 y434.length co93 : Value).ownBlock)) (by (with_reducible repeat (first | apply af | apply ag | apply ah)); exact av HO_3.out (fun _ hk => ⟨hk.2, hk.1⟩)) hg hat)
                    have n1_ := aa (Kd.R_over' (by (with_reducible repeat (first | apply af | apply ag | apply ah)); exact HO_4.out) (bd (by (with_reducible repeat (first | apply af | apply ag | apply ah)); exact HO432.out)) (by decide) hg)
                    have n2_ := aa (Kd.R_over' (by (with_reducible repeat (first | apply af | apply ag | apply ah)); exact HO_23.out) (bd (by (with_reducible repeat (first | apply af | apply ag | apply ah)); exact HO432.out)) (by decide) hg)
                    have n3_ := aa (Kd.R_after (ok := (fun k_ => some k_ ≠ (.slice Ao14 t383.length co14 : Value).ownBlock)) (by (with_reducible repeat (first | apply af | apply ag | apply ah)); exact av HO436.out (fun _ hk => ⟨hk.2, hk.1⟩)) hg hat)
                    have n4_ := aa (hb)
                    have n5_ := aa (ho)
                    clear HO_3
                    clear HO_4
                    clear HO_23
                    clear HO436
                    clear HB
                    clear HO432
                    have HO_3 := n0_
                    have HO_4 := n1_
                    have HO_23 := n2_
                    have HO436 := n3_
                    have HB := n4_
                    have HO439 := n5_
                    clear n0_ n1_ n2_ n3_ n4_ n5_
                    clear ho hb hg hat
                    refine hK.out _ _ ⟨HS0_, HS1_⟩ (fun hHeld => ?_)
                    clear hK K
                    refine norm_ (a' := ?_) ?_ ?_
                    rotate_left
                    ·show Act.put _ (some 189) _ = _
                     simp only [Act.put, List.setIfInBounds_toArray, List.set_cons_zero, List.set_cons_succ, i64_w, i32_w]
                     rfl
                    refine pure_ (i := 11) (N := some 26) (v := ?_) (a' := ?_) #[true, true, true, true, true, true, true, true, true, true, true, true] rfl rfl (any_of HT_.out (by kernel_rfl)) (fun _ _ _ h => h) (Or.inl ⟨by rfl, ?_⟩) ?_ ?_
                    rotate_left
                    ·intro w'
                     go_simp
                     with_reducible rfl
                    rotate_left
                    ·simp only [Act.put, List.setIfInBounds_toArray, List.set_cons_zero, List.set_cons_succ, i64_w, i32_w]
                     rfl
                    refine done_ (done_of HT_.out (by kernel_rfl)) ?_
                    obtain ⟨Ao94, co94, eo94⟩ := bc HO439.out
                    subst eo94
                    go_upto_region 29 with (first | ((with_reducible refine gate_callee (f := 43) rfl ?_); refine goesL_ (some 192) rfl rfl Try.func43 (by kernel_rfl) rfl #[.slice Ao94 y437.length co94] rfl (by (try simp only [List.map_toArray, List.map_cons, List.map_nil]); first | done | rfl | (simp only [List.length_drop, List.length_take]; rfl)) ?_; (with_reducible refine (impl_MomentOf.calls kj75 _ _ y437 t440 t441 _ ?side1 ?side2 A83.out).mono ?_); (case side1 => repeat (first | exact (an HO439.out).2.2 | (with_reducible refine ay ?_ _) | (with_reducible refine az ?_ _) | (with_reducible refine ba ?_))); (case side2 => exact (an HO439.out).2.1); rintro e w95 ⟨v442, rfl, ho0, hb⟩; refine ⟨_, rfl, ?_⟩; have n0_ := aa (ax (by (with_reducible repeat (first | apply af | apply ag | apply ah)); exact HO_3.out) hb); have n1_ := aa (ax (by (with_reducible repeat (first | apply af | apply ag | apply ah)); exact HO_4.out) hb); have n2_ := aa (ax (by (with_reducible repeat (first | apply af | apply ag | apply ah)); exact HO_23.out) hb); have n3_ := aa (ax (by (with_reducible repeat (first | apply af | apply ag | apply ah)); exact HO436.out) hb); have n4_ := aa (ax (by (with_reducible repeat (first | apply af | apply ag | apply ah)); exact HO439.out) hb); have n5_ := aa (bg ho0 (aw (by repeat (first | (with_reducible first | exact HB.out | apply ae | apply ab | apply ac) | exact HB.out)))); have n6_ := aa (ap (by repeat (first | (with_reducible first | exact HB.out | apply ae | apply ab | apply ac) | exact HB.out)) hb); clear HO_3; clear HO_4; clear HO_23; clear HO436; clear HO439; clear HB; have HO_3 := n0_; have HO_4 := n1_; have HO_23 := n2_; have HO436 := n3_; have HO439 := n4_; have HO443 := n5_; have HB := n6_; clear n0_ n1_ n2_ n3_ n4_ n5_ n6_; (try clear hb); (try clear hb2); (try clear hk); (try clear hi); (try clear ho0)))
                    (try simp only [Act.put, List.setIfInBounds_toArray, List.set_cons_zero, List.set_cons_succ])
                    go_cut [201] (fun v201 wc => ∃ (kq : Nat) (x201_83 : Bool), v201 = .bool x201_83 ∧ Aside0 (laws_FnBalanceOf.j6 kq t383 t384 t392 t393 x23_4 x24_4 t440 x201_83 = some r) ∧ Aside0 (kq ≤ kj75) ∧ Aside0 (Kd.R k64 64 wc w.heap.size (fun _ => True) (.slice Ao14 t383.length co14) t383) ∧ Aside0 (Kd.R k62 62 wc w.heap.size (fun _ => True) (.slice (some ad433) t384.length co15) t384) ∧ Aside0 (Kd.R (Kd.int .i64) 2 wc w.heap.size (fun _ => True) u23 x23_4) ∧ Aside0 (Kd.R (Kd.int .i64) 81 wc w.heap.size (fun _ => True) v442 t440) ∧ Aside0 (Below w.heap.size w wc))
                    case first => as_aux_lemma =>
                     have H := HC84.out
                     clear HC84
                     by_cases c96 : t441 = 0
                     ·rw [if_pos c96] at H
                      have c96b0 : (t441 == 0) = true := beq_iff_eq.mpr c96
                      have c96b1 : (t441 != 0) = false := bne_eq_false_iff_eq.mpr c96
                      clear c96
                      (first | rw [c96b0] | (simp only [i64_w, i32_w]; rw [c96b0]) | skip)
                      have H' := aa H
                      clear H
                      obtain ⟨Ao97, co97, eo97⟩ := bc HO443.out
                      subst eo97
                      go_wp2
                      go_meet
                      case rel => exact ⟨_, (((t440.length : Int) != 3)), (by first | rfl | (simp; done) | (simp [*]; done)), H', ⟨by have := HJ11.out; have := HJ44.out; have := HJ69.out; have := HK4.out; have := HJ75.out; first | omega | exact Nat.le_refl _⟩, ⟨by (with_reducible repeat (first | apply af | apply ag | apply ah)); exact av HO_3.out (fun _ hk => trivial)⟩, ⟨by (with_reducible repeat (first | apply af | apply ag | apply ah)); exact HO_4.out⟩, ⟨by (with_reducible repeat (first | apply af | apply ag | apply ah)); exact HO_23.out⟩, ⟨by (with_reducible repeat (first | apply af | apply ag | apply ah)); exact HO443.out⟩, ⟨by repeat (first | (with_reducible first | exact HB.out | apply ae | apply ab | apply ac) | exact HB.out)⟩⟩
                     ·rw [if_neg c96] at H
                      have c96b0 : (t441 == 0) = false := beq_eq_false_iff_ne.mpr c96
                      have c96b1 : (t441 != 0) = true := bne_iff_ne.mpr c96
                      (first | rw [c96b0] | (simp only [i64_w, i32_w]; rw [c96b0]) | skip)
                      have H' := aa H
                      clear H
                      go_wp2
                      go_meet
                      case rel => exact ⟨_, (true), (by first | rfl | (simp; done) | (simp [*]; done)), H', ⟨by have := HJ11.out; have := HJ44.out; have := HJ69.out; have := HK4.out; have := HJ75.out; first | omega | exact Nat.le_refl _⟩, ⟨by (with_reducible repeat (first | apply af | apply ag | apply ah)); exact av HO_3.out (fun _ hk => trivial)⟩, ⟨by (with_reducible repeat (first | apply af | apply ag | apply ah)); exact HO_4.out⟩, ⟨by (with_reducible repeat (first | apply af | apply ag | apply ah)); exact HO_23.out⟩, ⟨by (with_reducible repeat (first | apply af | apply ag | apply ah)); exact HO443.out⟩, ⟨by repeat (first | (with_reducible first | exact HB.out | apply ae | apply ab | apply ac) | exact HB.out)⟩⟩
                    case rest => as_aux_lemma =>
                     clear HC84
                     try clear p2
                     try clear c3
                     try clear c4
                     try clear p4
                     try clear q4
                     try clear hx4
                     try clear qi4
                     try clear c5
                     try clear c6
                     try clear p6
                     try clear c7
                     try clear c8
                     try clear c9
                     try clear c36
                     try clear p41
                     try clear q41
                     try clear hx41
                     try clear qi41
                     try clear c42
                     try clear p42
                     try clear q42
                     try clear hx42
                     try clear qi42
                     try clear c43
                     try clear p43
                     try clear q43
                     try clear hx43
                     try clear c44
                     try clear c45
                     try clear c46
                     try clear c46b0
                     try clear c46b1
                     try clear c48
                     try clear c50
                     try clear c50b0
                     try clear c50b1
                     try clear c52
                     try clear c53
                     try clear c53b0
                     try clear c53b1
                     try clear c55
                     try clear c55b0
                     try clear c56
                     try clear c56b0
                     try clear c56b1
                     try clear c58
                     try clear c58b0
                     try clear c59
                     try clear c59b0
                     try clear c59b1
                     try clear c61
                     try clear c61b0
                     try clear c61b1
                     try clear c61b2
                     try clear c64
                     try clear c64b0
                     try clear c64b1
                     try clear c64b2
                     try clear p64
                     try clear c67
                     try clear c67b0
                     try clear c67b1
                     try clear c67b2
                     try clear c71
                     try clear c71b0
                     try clear c71b1
                     try clear c72
                     try clear c75
                     try clear c75b0
                     try clear c77
                     try clear c77b0
                     try clear c78
                     try clear c79
                     try clear c80
                     try clear c80b0
                     try clear c81
                     try clear c81b0
                     try clear c82
                     try clear c96
                     try clear c96b0
                     try clear c96b1
                     try clear hx418_0
                     try clear hx420_0
                     try clear hx422_0
                     try clear hx433_0
                     try clear hx433_1
                     try clear p2
                     try clear p4
                     try clear p41
                     try clear p418
                     try clear p42
                     try clear p420
                     try clear p422
                     try clear p433
                     try clear p64
                     try clear q4
                     try clear q41
                     try clear q418
                     try clear q42
                     try clear q420
                     try clear q422
                     try clear q433
                     obtain ⟨kq, x201_83, rfl, HA, HJ83, HO_3, HO_4, HO_23, HO_27, HB⟩ := hcut
                     cases kq with
                     | zero => exact absurd HA.out (by simp [laws_FnBalanceOf.j6])
                     | succ kj83 =>
                      have H := HA.out
                      clear HA
                      simp only [laws_FnBalanceOf.j6] at H
                      by_cases c98 : x201_83 = true
                      ·subst c98
                       have H1 : (some false) = some r := by rw [if_pos rfl] at H; exact H
                       clear H
                       have H := H1
                       clear H1
                       obtain rfl := Option.some.inj H
                       go_wp2
                       go_ret
                       exact ⟨by first | rfl | (simp [errW_none, errW_some] <;> rfl) | (simp [*, errW_none, errW_some] <;> rfl), by repeat (first | (with_reducible first | exact HB.out | apply ae | apply ab | apply ac) | exact HB.out)⟩
                      ·replace c98 := Bool.eq_false_iff.mpr c98
                       subst c98
                       have H1 := H; rw [if_neg (show ¬ (false = true) by decide)] at H1
                       clear H
                       have H := H1
                       clear H1
                       by_cases c99 : 0 < (t440.length : Int)
                       ·rw [if_pos c99] at H
                        have c99b0 : decide (0 < (t440.length : Int)) = true := decide_eq_true c99
                        have c99b1 : decide (0 < t440.length) = true := decide_eq_true (by omega)
                        clear c99
                        replace H := bl.mp H
                        obtain ⟨t445, A1000, H⟩ := H
                        (try dsimp only at H)
                        have A100 := aa A1000
                        clear A1000
                        by_cases c101 : 1 < (t440.length : Int)
                        ·rw [if_pos c101] at H
                         have c101b0 : decide (1 < (t440.length : Int)) = true := decide_eq_true c101
                         have c101b1 : decide (1 < t440.length) = true := decide_eq_true (by omega)
                         clear c101
                         replace H := bl.mp H
                         obtain ⟨t447, A1020, H⟩ := H
                         (try dsimp only at H)
                         have A102 := aa A1020
                         clear A1020
                         by_cases c103 : 2 < (t440.length : Int)
                         ·rw [if_pos c103] at H
                          have c103b0 : decide (2 < (t440.length : Int)) = true := decide_eq_true c103
                          have c103b1 : decide (2 < t440.length) = true := decide_eq_true (by omega)
                          clear c103
                          replace H := bl.mp H
                          obtain ⟨t449, A1040, H⟩ := H
                          (try dsimp only at H)
                          have A104 := aa A1040
                          clear A1040
                          by_cases c105 : x24_4 = 0
                          ·rw [if_pos c105] at H
                           have c105b0 : (x24_4 == 0) = true := beq_iff_eq.mpr c105
                           have c105b1 : (x24_4 != 0) = false := bne_eq_false_iff_eq.mpr c105
                           clear c105
                           obtain ⟨y450, hy450⟩ : ∃ y_ : List Int, y_ = (([wrap64 ((wrap64 (t445 + t447)) + t449)] : List Int)) := ⟨_, rfl⟩
                           replace H : (if y450.length + x23_4.length < 17592186044416 then (laws_FnBalanceOf.l0 kj83 t383 t384 t392 t393 (y450 ++ x23_4) (wrap64 (x24_4 + 1))) else (none)) = some r := by first | (rw [hy450]; with_reducible exact H) | (have H2_ := (Option.bind_some _ _).symm.trans H; rw [hy450]; with_reducible exact H2_) | (have H2_ := (Option.bind_some _ _).symm.trans H; with_reducible exact H2_) | with_reducible exact H | (rw [hy450]; exact H) | exact H
                           have Ny450 := aa hy450
                           clear hy450
                           by_cases c106 : y450.length + x23_4.length < 17592186044416
                           ·rw [if_pos c106] at H
                            have LMc106 := aa c106
                            clear c106
                            obtain ⟨y453, hy453⟩ : ∃ y_ : List Int, y_ = (y450 ++ x23_4) := ⟨_, rfl⟩
                            replace H : (laws_FnBalanceOf.l0 kj83 t383 t384 t392 t393 y453 (wrap64 (x24_4 + 1))) = some r := by first | (rw [hy453]; with_reducible exact H) | (have H2_ := (Option.bind_some _ _).symm.trans H; rw [hy453]; with_reducible exact H2_) | (have H2_ := (Option.bind_some _ _).symm.trans H; with_reducible exact H2_) | with_reducible exact H | (rw [hy453]; exact H) | exact H
                            have Ny453 := aa hy453
                            clear hy453
                            have H' := aa H
                            clear H
                            try go_wp2
                            have n0_ := aa (ah HO_3.out)
                            have n1_ := aa (ah HO_4.out)
                            have n2_ := aa (ah HO_23.out)
                            have n3_ := aa (ah HO_27.out)
                            have n4_ := aa (ac HB.out)
                            clear HO_3
                            clear HO_4
                            clear HO_23
                            clear HO_27
                            clear HB
                            have HO_3 := n0_
                            have HO_4 := n1_
                            have HO_23 := n2_
                            have HO_27 := n3_
                            have HB := n4_
                            clear n0_ n1_ n2_ n3_ n4_
                            obtain ⟨Ao108, co108, eo108⟩ := bc HO_27.out
                            (first | subst eo108 | (injection eo108 with f1_ f2_ f3_; have f4_ := f1_.symm; have f5_ := f3_.symm; clear f1_ f2_ f3_; subst f4_; subst f5_))
                            have p444 : 0 ≤ (0 : Int) := (by omega)
                            have q444 : 0 < (t440.length : Int) := of_decide_eq_true (by first | (with_reducible assumption) | assumption)
                            obtain ⟨ad444, e444, hx444_0⟩ := be (an HO_27.out).2.2 0 p444 q444
                            cases e444
                            have qi444 : (0 < t440.length) = True := eq_true (by omega)
                            (try rw [show ((0 : Int)).toNat = 0 from rfl] at hx444_0)
                            (try rw [Addr.add_zero'] at hx444_0)
                            replace p444 := eq_true p444
                            replace q444 := eq_true q444
                            have p446 : 0 ≤ (1 : Int) := (by omega)
                            have q446 : 1 < (t440.length : Int) := of_decide_eq_true (by first | (with_reducible assumption) | assumption)
                            obtain ⟨ad446, e446, hx446_0⟩ := be (an HO_27.out).2.2 1 p446 q446
                            obtain rfl : ad444 = ad446 := (by injection e446)
                            (try simp only [show (1 : Int).toNat = 1 from rfl, Nat.reduceMul, Nat.reduceEqDiff, Go.Addr.add, ↓reduceIte] at hx446_0)
                            have qi446 : (1 < t440.length) = True := eq_true (by omega)
                            (try rw [show ((1 : Int)).toNat = 1 from rfl] at hx446_0)
                            replace p446 := eq_true p446
                            replace q446 := eq_true q446
                            have p448 : 0 ≤ (2 : Int) := (by omega)
                            have q448 : 2 < (t440.length : Int) := of_decide_eq_true (by first | (with_reducible assumption) | assumption)
                            obtain ⟨ad448, e448, hx448_0⟩ := be (an HO_27.out).2.2 2 p448 q448
                            obtain rfl : ad444 = ad448 := (by injection e448)
                            (try simp only [show (2 : Int).toNat = 2 from rfl, Nat.reduceMul, Nat.reduceEqDiff, Go.Addr.add, ↓reduceIte] at hx448_0)
                            have qi448 : (2 < t440.length) = True := eq_true (by omega)
                            (try rw [show ((2 : Int)).toNat = 2 from rfl] at hx448_0)
                            replace p448 := eq_true p448
                            replace q448 := eq_true q448
                            refine start_ (n := 15) (S := fun w' => w'.cell? ad444 = some (.int .i64 (rd t440 0)) ∧ w'.cell? ⟨ad444.block, ad444.off + 1, none⟩ = some (.int .i64 (rd t440 1)) ∧ w'.cell? ⟨ad444.block, ad444.off + 2, none⟩ = some (.int .i64 (rd t440 2))) (ds := []) #[false, false, false, false, false, false, false, false, false, false, false, false, false, false, false] (by kernel_rfl) rfl rfl ⟨hx444_0, hx446_0, hx448_0⟩ (fun hHeld => ?_); refine with_tabW laws_FnBalanceOf.tab31 laws_FnBalanceOf.bits31 (fun HT_ HW_ => ?_)
                            generalize wc.drew = w107 at HO_3 HO_4 HO_23 HO_27 HB hx444_0 hx446_0 hx448_0 hHeld ⊢
                            refine pure_ (i := 0) (N := some 202) (v := ?_) (a' := ?_) #[true, false, false, false, false, false, false, false, false, false, false, false, false, false, false] rfl rfl (any_of HT_.out (by kernel_rfl)) (fun _ _ _ h => h) (Or.inl ⟨by rfl, ?_⟩) ?_ ?_
                            rotate_left
                            ·intro w'
                             go_simp
                             with_reducible rfl
                            rotate_left
                            ·simp only [Act.put, List.setIfInBounds_toArray, List.set_cons_zero, List.set_cons_succ, i64_w, i32_w]
                             rfl
                            refine pure_ (i := 1) (N := some 203) (v := ?_) (a' := ?_) #[true, true, false, false, false, false, false, false, false, false, false, false, false, false, false] rfl rfl (any_of HT_.out (by kernel_rfl)) (fun _ _ _ h => h) (Or.inl ⟨by rfl, ?_⟩) ?_ ?_
                            rotate_left
                            ·intro w'
                             go_simp
                             with_reducible rfl
                            rotate_left
                            ·simp only [Act.put, List.setIfInBounds_toArray, List.set_cons_zero, List.set_cons_succ, i64_w, i32_w]
                             rfl
                            refine pure_ (i := 4) (N := some 206) (v := ?_) (a' := ?_) #[true, true, false, false, true, false, false, false, false, false, false, false, false, false, false] rfl rfl (any_of HT_.out (by kernel_rfl)) (fun _ _ _ h => h) (Or.inl ⟨by rfl, ?_⟩) ?_ ?_
                            rotate_left
                            ·intro w'
                             go_simp
                             with_reducible rfl
                            rotate_left
                            ·simp only [Act.put, List.setIfInBounds_toArray, List.set_cons_zero, List.set_cons_succ, i64_w, i32_w]
                             rfl
                            refine pure_ (i := 5) (N := some 207) (v := ?_) (a' := ?_) #[true, true, false, false, true, true, false, false, false, false, false, false, false, false, false] rfl rfl (any_of HT_.out (by kernel_rfl)) (fun _ _ _ h => h) (Or.inl ⟨by rfl, ?_⟩) ?_ ?_
                            rotate_left
                            ·intro w'
                             go_simp
                             with_reducible rfl
                            rotate_left
                            ·simp only [Act.put, List.setIfInBounds_toArray, List.set_cons_zero, List.set_cons_succ, i64_w, i32_w]
                             rfl
                            refine pure_ (i := 9) (N := some 211) (v := ?_) (a' := ?_) #[true, true, false, false, true, true, false, false, false, true, false, false, false, false, false] rfl rfl (any_of HT_.out (by kernel_rfl)) (fun _ _ _ h => h) (Or.inl ⟨by rfl, ?_⟩) ?_ ?_
                            rotate_left
                            ·intro w'
                             go_simp
                             with_reducible rfl
                            rotate_left
                            ·simp only [Act.put, List.setIfInBounds_toArray, List.set_cons_zero, List.set_cons_succ, i64_w, i32_w]
                             rfl
                            refine pure_ (i := 10) (N := some 212) (v := ?_) (a' := ?_) #[true, true, false, false, true, true, false, false, false, true, true, false, false, false, false] rfl rfl (any_of HT_.out (by kernel_rfl)) (fun _ _ _ h => h) (Or.inl ⟨by rfl, ?_⟩) ?_ ?_
                            rotate_left
                            ·intro w'
                             go_simp
                             with_reducible rfl
                            rotate_left
                            ·simp only [Act.put, List.setIfInBounds_toArray, List.set_cons_zero, List.set_cons_succ, i64_w, i32_w]
                             rfl
                            refine take_ (i := 2) (N := some 204) (v := ?_) (a' := ?_) #[true, true, true, false, true, true, false, false, false, true, true, false, false, false, false] rfl rfl (take_ofW HT_.out HW_.out (by kernel_rfl)) (fun _ _ _ h => h) (Or.inl ⟨by rfl, ?_⟩) hHeld ?_ ?_
                            rotate_left
                            ·rintro w' ⟨s0, s1, s2⟩
                             go_simp
                             with_reducible rfl
                            rotate_left
                            ·simp only [Act.put, List.setIfInBounds_toArray, List.set_cons_zero, List.set_cons_succ, i64_w, i32_w]
                             rfl
                            refine take_ (i := 6) (N := some 208) (v := ?_) (a' := ?_) #[true, true, true, false, true, true, true, false, false, true, true, false, false, false, false] rfl rfl (take_ofW HT_.out HW_.out (by kernel_rfl)) (fun _ _ _ h => h) (Or.inl ⟨by rfl, ?_⟩) hHeld ?_ ?_
                            rotate_left
                            ·rintro w' ⟨s0, s1, s2⟩
                             go_simp
                             with_reducible rfl
                            rotate_left
                            ·simp only [Act.put, List.setIfInBounds_toArray, List.set_cons_zero, List.set_cons_succ, i64_w, i32_w]
                             rfl
                            refine take_ (i := 11) (N := some 213) (v := ?_) (a' := ?_) #[true, true, true, false, true, true, true, false, false, true, true, true, false, false, false] rfl rfl (take_ofW HT_.out HW_.out (by kernel_rfl)) (fun _ _ _ h => h) (Or.inl ⟨by rfl, ?_⟩) hHeld ?_ ?_
                            rotate_left
                            ·rintro w' ⟨s0, s1, s2⟩
                             go_simp
                             with_reducible rfl
                            rotate_left
                            ·simp only [Act.put, List.setIfInBounds_toArray, List.set_cons_zero, List.set_cons_succ, i64_w, i32_w]
                             rfl
                            refine one_ (i := 3) (N := some 205) #[true, true, true, true, true, true, true, false, false, true, true, true, false, false, false] rfl rfl (one_of HT_.out (by kernel_rfl)) (by decide) (fun K hK => ?_)
                            refine goes_ Try.func36 (by kernel_rfl) rfl #[.int .i64 (rd t440 0)] (by rfl) rfl rfl (by (try simp only [List.map_toArray, List.map_cons, List.map_nil]); first | done | rfl | (simp only [List.length_drop, List.length_take]; rfl)) ?_
                            with_reducible refine (laws_f6abs.calls (rd t440 0) t445 _ A100.out).mono ?_
                            rintro e w' ⟨rfl, ⟨nd, rfl⟩⟩
                            refine ⟨_, rfl, ?_⟩
                            refine hK.out _ _ ⟨hHeld.1, hHeld.2.1, hHeld.2.2⟩ (fun hHeld => ?_)
                            clear hK K
                            refine norm_ (a' := ?_) ?_ ?_
                            rotate_left
                            ·show Act.put _ (some 205) _ = _
                             simp only [Act.put, List.setIfInBounds_toArray, List.set_cons_zero, List.set_cons_succ, i64_w, i32_w]
                             rfl
                            refine one_ (i := 7) (N := some 209) #[true, true, true, true, true, true, true, true, false, true, true, true, false, false, false] rfl rfl (one_of HT_.out (by kernel_rfl)) (by decide) (fun K hK => ?_)
                            refine goes_ Try.func36 (by kernel_rfl) rfl #[.int .i64 (rd t440 1)] (by rfl) rfl rfl (by (try simp only [List.map_toArray, List.map_cons, List.map_nil]); first | done | rfl | (simp only [List.length_drop, List.length_take]; rfl)) ?_
                            with_reducible refine (laws_f6abs.calls (rd t440 1) t447 _ A102.out).mono ?_
                            rintro e w' ⟨rfl, ⟨nd, rfl⟩⟩
                            refine ⟨_, rfl, ?_⟩
                            refine hK.out _ _ ⟨hHeld.1, hHeld.2.1, hHeld.2.2⟩ (fun hHeld => ?_)
                            clear hK K
                            refine norm_ (a' := ?_) ?_ ?_
                            rotate_left
                            ·show Act.put _ (some 209) _ = _
                             simp only [Act.put, List.setIfInBounds_toArray, List.set_cons_zero, List.set_cons_succ, i64_w, i32_w]
                             rfl
                            refine pure_ (i := 8) (N := some 210) (v := ?_) (a' := ?_) #[true, true, true, true, true, true, true, true, true, true, true, true, false, false, false] rfl rfl (any_of HT_.out (by kernel_rfl)) (fun _ _ _ h => h) (Or.inl ⟨by rfl, ?_⟩) ?_ ?_
                            rotate_left
                            ·intro w'
                             go_simp
                             with_reducible rfl
                            rotate_left
                            ·simp only [Act.put, List.setIfInBounds_toArray, List.set_cons_zero, List.set_cons_succ, i64_w, i32_w]
                             rfl
                            refine one_ (i := 12) (N := some 214) #[true, true, true, true, true, true, true, true, true, true, true, true, true, false, false] rfl rfl (one_of HT_.out (by kernel_rfl)) (by decide) (fun K hK => ?_)
                            refine goes_ Try.func36 (by kernel_rfl) rfl #[.int .i64 (rd t440 2)] (by rfl) rfl rfl (by (try simp only [List.map_toArray, List.map_cons, List.map_nil]); first | done | rfl | (simp only [List.length_drop, List.length_take]; rfl)) ?_
                            with_reducible refine (laws_f6abs.calls (rd t440 2) t449 _ A104.out).mono ?_
                            rintro e w' ⟨rfl, ⟨nd, rfl⟩⟩
                            refine ⟨_, rfl, ?_⟩
                            refine hK.out _ _ ⟨hHeld.1, hHeld.2.1, hHeld.2.2⟩ (fun hHeld => ?_)
                            clear hK K
                            refine norm_ (a' := ?_) ?_ ?_
                            rotate_left
                            ·show Act.put _ (some 214) _ = _
                             simp only [Act.put, List.setIfInBounds_toArray, List.set_cons_zero, List.set_cons_succ, i64_w, i32_w]
                             rfl
                            refine pure_ (i := 13) (N := some 215) (v := ?_) (a' := ?_) #[true, true, true, true, true, true, true, true, true, true, true, true, true, true, false] rfl rfl (any_of HT_.out (by kernel_rfl)) (fun _ _ _ h => h) (Or.inl ⟨by rfl, ?_⟩) ?_ ?_
                            rotate_left
                            ·intro w'
                             go_simp
                             with_reducible rfl
                            rotate_left
                            ·simp only [Act.put, List.setIfInBounds_toArray, List.set_cons_zero, List.set_cons_succ, i64_w, i32_w]
                             rfl
                            refine pure_ (i := 14) (N := some 29) (v := ?_) (a' := ?_) #[true, true, true, true, true, true, true, true, true, true, true, true, true, true, true] rfl rfl (any_of HT_.out (by kernel_rfl)) (fun _ _ _ h => h) (Or.inl ⟨by rfl, ?_⟩) ?_ ?_
                            rotate_left
                            ·intro w'
                             go_simp
                             with_reducible rfl
                            rotate_left
                            ·simp only [Act.put, List.setIfInBounds_toArray, List.set_cons_zero, List.set_cons_succ, i64_w, i32_w]
                             rfl
                            refine done_ (done_of HT_.out (by kernel_rfl)) ?_
                            try go_wp2_with (first | ((with_reducible refine bi (N := 219) rfl ?_); (try (refine gate_guard (by rfl) ?_; dsimp only)); refine Kd.R_lit (Kd.int .i64) _ 2 ?hg (N := 219) ?hd (xs := ([wrap64 ((wrap64 (t445 + t447)) + t449)] : List Int)) (inner := [.int .i64 (wrap64 ((wrap64 (t445 + t447)) + t449))]) (ok := fun _ => True) (okp := fun _ => True) ?hr ?hp (fun _ hk => hk) trivial (Below.refl _ _) (Nat.le_refl _) (by simp) ?_; (case hd => rfl); (case hg => rfl); (case hr => first | (go_simp; done) | (go_simp; rfl)); (case hp => exact (Reps.one (show Kd.M (Kd.int .i64) _ _ _ (wrap64 ((wrap64 (t445 + t447)) + t449)) [.int .i64 (wrap64 ((wrap64 (t445 + t447)) + t449))] from rfl) (Reps.none _ _))); intro v451 w109 ho110 hb hg_ hnew_; clear hg_ hnew_; (first | rw [← Ny450.out] at ho110 | (simp only [Int.reduceToNat] at ho110; rw [← Ny450.out] at ho110)); have n0_ := aa (ax (by (with_reducible repeat (first | apply af | apply ag | apply ah)); exact HO_3.out) hb); have n1_ := aa (ax (by (with_reducible repeat (first | apply af | apply ag | apply ah)); exact HO_4.out) hb); have n2_ := aa (Kd.R_elder' (by (with_reducible repeat (first | apply af | apply ag | apply ah)); exact HO_23.out) (Kd.R_base ho110) hb); have n3_ := aa (ax (by (with_reducible repeat (first | apply af | apply ag | apply ah)); exact HO_27.out) hb); have n4_ := aa (bg (Kd.R_new' ho110 (Kd.R_lt (by (with_reducible repeat (first | apply af | apply ag | apply ah)); exact HO_23.out))) (aw (by repeat (first | (with_reducible first | exact HB.out | apply ae | apply ab | apply ac) | exact HB.out)))); have n5_ := aa (ap (by repeat (first | (with_reducible first | exact HB.out | apply ae | apply ab | apply ac) | exact HB.out)) hb); clear HO_3; clear HO_4; clear HO_23; clear HO_27; clear HB; have HO_3 := n0_; have HO_4 := n1_; have HO_23 := n2_; have HO_27 := n3_; have HO452 := n4_; have HB := n5_; clear n0_ n1_ n2_ n3_ n4_ n5_; clear hb ho110; obtain ⟨Ao112, co112, eo112⟩ := bc HO_23.out; subst eo112) | ((with_reducible refine gate_builtin (b := .append) (xs := #[.tmp 219, .tmp 220]) rfl ?_); (try (refine gate_guard (by rfl) ?_; dsimp only)); at_builtin; refine Kd.R_append_rows (Kd.int .i64) (w0 := w) w.heap.size rfl (.tmp 219) (.tmp 220) 27 2 (.int .i64 0) 8 rfl Try.underlying27 info2 rfl (by decide) (by omega) v451 y450 x23_4 _ _ _ (fun k_ => some k_ ≠ (.slice Ao112 x23_4.length co112 : Value).ownBlock) (fun _ => False) rfl rfl ?aO ?aR (fun _ _ h => h) (fun _ h => h.elim) ?aF ?aB ?aS ?aL ?_; (case aR => repeat (first | exact (an HO_23.out).2.2 | (with_reducible refine ay ?_ _) | (with_reducible refine az ?_ _) | (with_reducible refine ba ?_))); (case aB => exact (by repeat (first | (with_reducible first | exact HB.out | apply ae | apply ab | apply ac) | exact HB.out))); (case aF => exact (fun k_ hk => Kd.fresh' (Kd.R_lt (by (with_reducible repeat (first | apply af | apply ag | apply ah)); exact HO_23.out)) k_ hk)); (case aO => exact (by (with_reducible repeat (first | apply af | apply ag | apply ah)); exact av HO452.out (fun _ hk => hk.2))); (case aS => exact (aw (by repeat (first | (with_reducible first | exact HB.out | apply ae | apply ab | apply ac) | exact HB.out)))); (case aL => have := LMc106.out; omega); intro v454 w111 ho hb hg hat; rw [← Ny453.out] at ho; have n0_ := aa (Kd.R_over' (by (with_reducible repeat (first | apply af | apply ag | apply ah)); exact HO_3.out) (bd (by (with_reducible repeat (first | apply af | apply ag | apply ah)); exact HO452.out)) (by decide) hg); have n1_ := aa (Kd.R_over' (by (with_reducible repeat (first | apply af | apply ag | apply ah)); exact HO_4.out) (bd (by (with_reducible repeat (first | apply af | apply ag | apply ah)); exact HO452.out)) (by decide) hg); have n2_ := aa (Kd.R_after (ok := (fun _ => True)) (by (with_reducible repeat (first | apply af | apply ag | apply ah)); exact HO_23.out) hg hat); have n3_ := aa (Kd.R_over' (by (with_reducible repeat (first | apply af | apply ag | apply ah)); exact HO_27.out) (bd (by (with_reducible repeat (first | apply af | apply ag | apply ah)); exact HO452.out)) (by decide) hg); have n4_ := aa (hb); have n5_ := aa (ho); clear HO_3; clear HO_4; clear HO_23; clear HO_27; clear HB; clear HO452; have HO_3 := n0_; have HO_4 := n1_; have HO_23 := n2_; have HO_27 := n3_; have HB := n4_; have HO455 := n5_; clear n0_ n1_ n2_ n3_ n4_ n5_; clear ho hb hg hat))
                            go_roundg kj83
                            case measure => have := HJ11.out; have := HJ44.out; have := HJ69.out; have := HK4.out; have := HJ75.out; have := HJ83.out; omega
                            case rel => exact ⟨(y453), (wrap64 (x24_4 + 1)), (by first | rfl | (simp; done) | (simp [*]; done)), H', ⟨by have := HJ11.out; have := HJ44.out; have := HJ69.out; have := HK4.out; have := HJ75.out; have := HJ83.out; omega⟩, ⟨by (with_reducible repeat (first | apply af | apply ag | apply ah)); exact HO_3.out⟩, ⟨by (with_reducible repeat (first | apply af | apply ag | apply ah)); exact HO_4.out⟩, ⟨by (with_reducible repeat (first | apply af | apply ag | apply ah)); exact av HO455.out (fun _ hk => trivial)⟩, ⟨by repeat (first | (with_reducible first | exact HB.out | apply ae | apply ab | apply ac) | exact HB.out)⟩⟩
                           ·rw [if_neg c106] at H
                            exact absurd H (by simp)
                          ·rw [if_neg c105] at H
                           have c105b0 : (x24_4 == 0) = false := beq_eq_false_iff_ne.mpr c105
                           have c105b1 : (x24_4 != 0) = true := bne_iff_ne.mpr c105
                           obtain ⟨y456, hy456⟩ : ∃ y_ : List Int, y_ = (([wrap64 ((wrap64 (t445 + t447)) + t449)] : List Int)) := ⟨_, rfl⟩
                           replace H : (if x23_4.length + y456.length < 17592186044416 then (laws_FnBalanceOf.l0 kj83 t383 t384 t392 t393 (x23_4 ++ y456) (wrap64 (x24_4 + 1))) else (none)) = some r := by first | (rw [hy456]; with_reducible exact H) | (have H2_ := (Option.bind_some _ _).symm.trans H; rw [hy456]; with_reducible exact H2_) | (have H2_ := (Option.bind_some _ _).symm.trans H; with_reducible exact H2_) | with_reducible exact H | (rw [hy456]; exact H) | exact H
                           have Ny456 := aa hy456
                           clear hy456
                           by_cases c113 : x23_4.length + y456.length < 17592186044416
                           ·rw [if_pos c113] at H
                            have LMc113 := aa c113
                            clear c113
                            obtain ⟨y459, hy459⟩ : ∃ y_ : List Int, y_ = (x23_4 ++ y456) := ⟨_, rfl⟩
                            replace H : (laws_FnBalanceOf.l0 kj83 t383 t384 t392 t393 y459 (wrap64 (x24_4 + 1))) = some r := by first | (rw [hy459]; with_reducible exact H) | (have H2_ := (Option.bind_some _ _).symm.trans H; rw [hy459]; with_reducible exact H2_) | (have H2_ := (Option.bind_some _ _).symm.trans H; with_reducible exact H2_) | with_reducible exact H | (rw [hy459]; exact H) | exact H
                            have Ny459 := aa hy459
                            clear hy459
                            have H' := aa H
                            clear H
                            try go_wp2
                            have n0_ := aa (ah HO_3.out)
                            have n1_ := aa (ah HO_4.out)
                            have n2_ := aa (ah HO_23.out)
                            have n3_ := aa (ah HO_27.out)
                            have n4_ := aa (ac HB.out)
                            clear HO_3
                            clear HO_4
                            clear HO_23
                            clear HO_27
                            clear HB
                            have HO_3 := n0_
                            have HO_4 := n1_
                            have HO_23 := n2_
                            have HO_27 := n3_
                            have HB := n4_
                            clear n0_ n1_ n2_ n3_ n4_
                            obtain ⟨Ao115, co115, eo115⟩ := bc HO_27.out
                            (first | subst eo115 | (injection eo115 with f1_ f2_ f3_; have f4_ := f1_.symm; have f5_ := f3_.symm; clear f1_ f2_ f3_; subst f4_; subst f5_))
                            have p444 : 0 ≤ (0 : Int) := (by omega)
                            have q444 : 0 < (t440.length : Int) := of_decide_eq_true (by first | (with_reducible assumption) | assumption)
                            obtain ⟨ad444, e444, hx444_0⟩ := be (an HO_27.out).2.2 0 p444 q444
                            cases e444
                            have qi444 : (0 < t440.length) = True := eq_true (by omega)
                            (try rw [show ((0 : Int)).toNat = 0 from rfl] at hx444_0)
                            (try rw [Addr.add_zero'] at hx444_0)
                            replace p444 := eq_true p444
                            replace q444 := eq_true q444
                            have p446 : 0 ≤ (1 : Int) := (by omega)
                            have q446 : 1 < (t440.length : Int) := of_decide_eq_true (by first | (with_reducible assumption) | assumption)
                            obtain ⟨ad446, e446, hx446_0⟩ := be (an HO_27.out).2.2 1 p446 q446
                            obtain rfl : ad444 = ad446 := (by injection e446)
                            (try simp only [show (1 : Int).toNat = 1 from rfl, Nat.reduceMul, Nat.reduceEqDiff, Go.Addr.add, ↓reduceIte] at hx446_0)
                            have qi446 : (1 < t440.length) = True := eq_true (by omega)
                            (try rw [show ((1 : Int)).toNat = 1 from rfl] at hx446_0)
                            replace p446 := eq_true p446
                            replace q446 := eq_true q446
                            have p448 : 0 ≤ (2 : Int) := (by omega)
                            have q448 : 2 < (t440.length : Int) := of_decide_eq_true (by first | (with_reducible assumption) | assumption)
                            obtain ⟨ad448, e448, hx448_0⟩ := be (an HO_27.out).2.2 2 p448 q448
                            obtain rfl : ad444 = ad448 := (by injection e448)
                            (try simp only [show (2 : Int).toNat = 2 from rfl, Nat.reduceMul, Nat.reduceEqDiff, Go.Addr.add, ↓reduceIte] at hx448_0)
                            have qi448 : (2 < t440.length) = True := eq_true (by omega)
                            (try rw [show ((2 : Int)).toNat = 2 from rfl] at hx448_0)
                            replace p448 := eq_true p448
                            replace q448 := eq_true q448
                            refine start_ (n := 15) (S := fun w' => w'.cell? ad444 = some (.int .i64 (rd t440 0)) ∧ w'.cell? ⟨ad444.block, ad444.off + 1, none⟩ = some (.int .i64 (rd t440 1)) ∧ w'.cell? ⟨ad444.block, ad444.off + 2, none⟩ = some (.int .i64 (rd t440 2))) (ds := []) #[false, false, false, false, false, false, false, false, false, false, false, false, false, false, false] (by kernel_rfl) rfl rfl ⟨hx444_0, hx446_0, hx448_0⟩ (fun hHeld => ?_); refine with_tabW laws_FnBalanceOf.tab31 laws_FnBalanceOf.bits31 (fun HT_ HW_ => ?_)
                            generalize wc.drew = w114 at HO_3 HO_4 HO_23 HO_27 HB hx444_0 hx446_0 hx448_0 hHeld ⊢
                            refine pure_ (i := 0) (N := some 202) (v := ?_) (a' := ?_) #[true, false, false, false, false, false, false, false, false, false, false, false, false, false, false] rfl rfl (any_of HT_.out (by kernel_rfl)) (fun _ _ _ h => h) (Or.inl ⟨by rfl, ?_⟩) ?_ ?_
                            rotate_left
                            ·intro w'
                             go_simp
                             with_reducible rfl
                            rotate_left
                            ·simp only [Act.put, List.setIfInBounds_toArray, List.set_cons_zero, List.set_cons_succ, i64_w, i32_w]
                             rfl
                            refine pure_ (i := 1) (N := some 203) (v := ?_) (a' := ?_) #[true, true, false, false, false, false, false, false, false, false, false, false, false, false, false] rfl rfl (any_of HT_.out (by kernel_rfl)) (fun _ _ _ h => h) (Or.inl ⟨by rfl, ?_⟩) ?_ ?_
                            rotate_left
                            ·intro w'
                             go_simp
                             with_reducible rfl
                            rotate_left
                            ·simp only [Act.put, List.setIfInBounds_toArray, List.set_cons_zero, List.set_cons_succ, i64_w, i32_w]
                             rfl
                            refine pure_ (i := 4) (N := some 206) (v := ?_) (a' := ?_) #[true, true, false, false, true, false, false, false, false, false, false, false, false, false, false] rfl rfl (any_of HT_.out (by kernel_rfl)) (fun _ _ _ h => h) (Or.inl ⟨by rfl, ?_⟩) ?_ ?_
                            rotate_left
                            ·intro w'
                             go_simp
                             with_reducible rfl
                            rotate_left
                            ·simp only [Act.put, List.setIfInBounds_toArray, List.set_cons_zero, List.set_cons_succ, i64_w, i32_w]
                             rfl
                            refine pure_ (i := 5) (N := some 207) (v := ?_) (a' := ?_) #[true, true, false, false, true, true, false, false, false, false, false, false, false, false, false] rfl rfl (any_of HT_.out (by kernel_rfl)) (fun _ _ _ h => h) (Or.inl ⟨by rfl, ?_⟩) ?_ ?_
                            rotate_left
                            ·intro w'
                             go_simp
                             with_reducible rfl
                            rotate_left
                            ·simp only [Act.put, List.setIfInBounds_toArray, List.set_cons_zero, List.set_cons_succ, i64_w, i32_w]
                             rfl
                            refine pure_ (i := 9) (N := some 211) (v := ?_) (a' := ?_) #[true, true, false, false, true, true, false, false, false, true, false, false, false, false, false] rfl rfl (any_of HT_.out (by kernel_rfl)) (fun _ _ _ h => h) (Or.inl ⟨by rfl, ?_⟩) ?_ ?_
                            rotate_left
                            ·intro w'
                             go_simp
                             with_reducible rfl
                            rotate_left
                            ·simp only [Act.put, List.setIfInBounds_toArray, List.set_cons_zero, List.set_cons_succ, i64_w, i32_w]
                             rfl
                            refine pure_ (i := 10) (N := some 212) (v := ?_) (a' := ?_) #[true, true, false, false, true, true, false, false, false, true, true, false, false, false, false] rfl rfl (any_of HT_.out (by kernel_rfl)) (fun _ _ _ h => h) (Or.inl ⟨by rfl, ?_⟩) ?_ ?_
                            rotate_left
                            ·intro w'
                             go_simp
                             with_reducible rfl
                            rotate_left
                            ·simp only [Act.put, List.setIfInBounds_toArray, List.set_cons_zero, List.set_cons_succ, i64_w, i32_w]
                             rfl
                            refine take_ (i := 2) (N := some 204) (v := ?_) (a' := ?_) #[true, true, true, false, true, true, false, false, false, true, true, false, false, false, false] rfl rfl (take_ofW HT_.out HW_.out (by kernel_rfl)) (fun _ _ _ h => h) (Or.inl ⟨by rfl, ?_⟩) hHeld ?_ ?_
                            rotate_left
                            ·rintro w' ⟨s0, s1, s2⟩
                             go_simp
                             with_reducible rfl
                            rotate_left
                            ·simp only [Act.put, List.setIfInBounds_toArray, List.set_cons_zero, List.set_cons_succ, i64_w, i32_w]
                             rfl
                            refine take_ (i := 6) (N := some 208) (v := ?_) (a' := ?_) #[true, true, true, false, true, true, true, false, false, true, true, false, false, false, false] rfl rfl (take_ofW HT_.out HW_.out (by kernel_rfl)) (fun _ _ _ h => h) (Or.inl ⟨by rfl, ?_⟩) hHeld ?_ ?_
                            rotate_left
                            ·rintro w' ⟨s0, s1, s2⟩
                             go_simp
                             with_reducible rfl
                            rotate_left
                            ·simp only [Act.put, List.setIfInBounds_toArray, List.set_cons_zero, List.set_cons_succ, i64_w, i32_w]
                             rfl
                            refine take_ (i := 11) (N := some 213) (v := ?_) (a' := ?_) #[true, true, true, false, true, true, true, false, false, true, true, true, false, false, false] rfl rfl (take_ofW HT_.out HW_.out (by kernel_rfl)) (fun _ _ _ h => h) (Or.inl ⟨by rfl, ?_⟩) hHeld ?_ ?_
                            rotate_left
                            ·rintro w' ⟨s0, s1, s2⟩
                             go_simp
                             with_reducible rfl
                            rotate_left
                            ·simp only [Act.put, List.setIfInBounds_toArray, List.set_cons_zero, List.set_cons_succ, i64_w, i32_w]
                             rfl
                            refine one_ (i := 3) (N := some 205) #[true, true, true, true, true, true, true, false, false, true, true, true, false, false, false] rfl rfl (one_of HT_.out (by kernel_rfl)) (by decide) (fun K hK => ?_)
                            refine goes_ Try.func36 (by kernel_rfl) rfl #[.int .i64 (rd t440 0)] (by rfl) rfl rfl (by (try simp only [List.map_toArray, List.map_cons, List.map_nil]); first | done | rfl | (simp only [List.length_drop, List.length_take]; rfl)) ?_
                            with_reducible refine (laws_f6abs.calls (rd t440 0) t445 _ A100.out).mono ?_
                            rintro e w' ⟨rfl, ⟨nd, rfl⟩⟩
                            refine ⟨_, rfl, ?_⟩
                            refine hK.out _ _ ⟨hHeld.1, hHeld.2.1, hHeld.2.2⟩ (fun hHeld => ?_)
                            clear hK K
                            refine norm_ (a' := ?_) ?_ ?_
                            rotate_left
                            ·show Act.put _ (some 205) _ = _
                             simp only [Act.put, List.setIfInBounds_toArray, List.set_cons_zero, List.set_cons_succ, i64_w, i32_w]
                             rfl
                            refine one_ (i := 7) (N := some 209) #[true, true, true, true, true, true, true, true, false, true, true, true, false, false, false] rfl rfl (one_of HT_.out (by kernel_rfl)) (by decide) (fun K hK => ?_)
                            refine goes_ Try.func36 (by kernel_rfl) rfl #[.int .i64 (rd t440 1)] (by rfl) rfl rfl (by (try simp only [List.map_toArray, List.map_cons, List.map_nil]); first | done | rfl | (simp only [List.length_drop, List.length_take]; rfl)) ?_
                            with_reducible refine (laws_f6abs.calls (rd t440 1) t447 _ A102.out).mono ?_
                            rintro e w' ⟨rfl, ⟨nd, rfl⟩⟩
                            refine ⟨_, rfl, ?_⟩
                            refine hK.out _ _ ⟨hHeld.1, hHeld.2.1, hHeld.2.2⟩ (fun hHeld => ?_)
                            clear hK K
                            refine norm_ (a' := ?_) ?_ ?_
                            rotate_left
                            ·show Act.put _ (some 209) _ = _
                             simp only [Act.put, List.setIfInBounds_toArray, List.set_cons_zero, List.set_cons_succ, i64_w, i32_w]
                             rfl
                            refine pure_ (i := 8) (N := some 210) (v := ?_) (a' := ?_) #[true, true, true, true, true, true, true, true, true, true, true, true, false, false, false] rfl rfl (any_of HT_.out (by kernel_rfl)) (fun _ _ _ h => h) (Or.inl ⟨by rfl, ?_⟩) ?_ ?_
                            rotate_left
                            ·intro w'
                             go_simp
                             with_reducible rfl
                            rotate_left
                            ·simp only [Act.put, List.setIfInBounds_toArray, List.set_cons_zero, List.set_cons_succ, i64_w, i32_w]
                             rfl
                            refine one_ (i := 12) (N := some 214) #[true, true, true, true, true, true, true, true, true, true, true, true, true, false, false] rfl rfl (one_of HT_.out (by kernel_rfl)) (by decide) (fun K hK => ?_)
                            refine goes_ Try.func36 (by kernel_rfl) rfl #[.int .i64 (rd t440 2)] (by rfl) rfl rfl (by (try simp only [List.map_toArray, List.map_cons, List.map_nil]); first | done | rfl | (simp only [List.length_drop, List.length_take]; rfl)) ?_
                            with_reducible refine (laws_f6abs.calls (rd t440 2) t449 _ A104.out).mono ?_
                            rintro e w' ⟨rfl, ⟨nd, rfl⟩⟩
                            refine ⟨_, rfl, ?_⟩
                            refine hK.out _ _ ⟨hHeld.1, hHeld.2.1, hHeld.2.2⟩ (fun hHeld => ?_)
                            clear hK K
                            refine norm_ (a' := ?_) ?_ ?_
                            rotate_left
                            ·show Act.put _ (some 214) _ = _
                             simp only [Act.put, List.setIfInBounds_toArray, List.set_cons_zero, List.set_cons_succ, i64_w, i32_w]
                             rfl
                            refine pure_ (i := 13) (N := some 215) (v := ?_) (a' := ?_) #[true, true, true, true, true, true, true, true, true, true, true, true, true, true, false] rfl rfl (any_of HT_.out (by kernel_rfl)) (fun _ _ _ h => h) (Or.inl ⟨by rfl, ?_⟩) ?_ ?_
                            rotate_left
                            ·intro w'
                             go_simp
                             with_reducible rfl
                            rotate_left
                            ·simp only [Act.put, List.setIfInBounds_toArray, List.set_cons_zero, List.set_cons_succ, i64_w, i32_w]
                             rfl
                            refine pure_ (i := 14) (N := some 29) (v := ?_) (a' := ?_) #[true, true, true, true, true, true, true, true, true, true, true, true, true, true, true] rfl rfl (any_of HT_.out (by kernel_rfl)) (fun _ _ _ h => h) (Or.inl ⟨by rfl, ?_⟩) ?_ ?_
                            rotate_left
                            ·intro w'
                             go_simp
                             with_reducible rfl
                            rotate_left
                            ·simp only [Act.put, List.setIfInBounds_toArray, List.set_cons_zero, List.set_cons_succ, i64_w, i32_w]
                             rfl
                            refine done_ (done_of HT_.out (by kernel_rfl)) ?_
                            try go_wp2_with (first | ((with_reducible refine bi (N := 224) rfl ?_); (try (refine gate_guard (by rfl) ?_; dsimp only)); refine Kd.R_lit (Kd.int .i64) _ 2 ?hg (N := 224) ?hd (xs := ([wrap64 ((wrap64 (t445 + t447)) + t449)] : List Int)) (inner := [.int .i64 (wrap64 ((wrap64 (t445 + t447)) + t449))]) (ok := fun _ => True) (okp := fun _ => True) ?hr ?hp (fun _ hk => hk) trivial (Below.refl _ _) (Nat.le_refl _) (by simp) ?_; (case hd => rfl); (case hg => rfl); (case hr => first | (go_simp; done) | (go_simp; rfl)); (case hp => exact (Reps.one (show Kd.M (Kd.int .i64) _ _ _ (wrap64 ((wrap64 (t445 + t447)) + t449)) [.int .i64 (wrap64 ((wrap64 (t445 + t447)) + t449))] from rfl) (Reps.none _ _))); intro v457 w116 ho117 hb hg_ hnew_; clear hg_ hnew_; (first | rw [← Ny456.out] at ho117 | (simp only [Int.reduceToNat] at ho117; rw [← Ny456.out] at ho117)); have n0_ := aa (ax (by (with_reducible repeat (first | apply af | apply ag | apply ah)); exact HO_3.out) hb); have n1_ := aa (ax (by (with_reducible repeat (first | apply af | apply ag | apply ah)); exact HO_4.out) hb); have n2_ := aa (Kd.R_elder' (by (with_reducible repeat (first | apply af | apply ag | apply ah)); exact HO_23.out) (Kd.R_base ho117) hb); have n3_ := aa (ax (by (with_reducible repeat (first | apply af | apply ag | apply ah)); exact HO_27.out) hb); have n4_ := aa (bg (Kd.R_new' ho117 (Kd.R_lt (by (with_reducible repeat (first | apply af | apply ag | apply ah)); exact HO_23.out))) (aw (by repeat (first | (with_reducible first | exact HB.out | apply ae | apply ab | apply ac) | exact HB.out)))); have n5_ := aa (ap (by repeat (first | (with_reducible first | exact HB.out | apply ae | apply ab | apply ac) | exact HB.out)) hb); clear HO_3; clear HO_4; clear HO_23; clear HO_27; clear HB; have HO_3 := n0_; have HO_4 := n1_; have HO_23 := n2_; have HO_27 := n3_; have HO458 := n4_; have HB := n5_; clear n0_ n1_ n2_ n3_ n4_ n5_; clear hb ho117; obtain ⟨Ao119, co119, eo119⟩ := bc HO458.out; subst eo119) | ((with_reducible refine gate_builtin (b := .append) (xs := #[.tmp 222, .tmp 224]) rfl ?_); (try (refine gate_guard (by rfl) ?_; dsimp only)); at_builtin; refine Kd.R_append_rows (Kd.int .i64) (w0 := w) w.heap.size rfl (.tmp 222) (.tmp 224) 27 2 (.int .i64 0) 8 rfl Try.underlying27 info2 rfl (by decide) (by omega) u23 x23_4 y456 _ _ _ (fun k_ => some k_ ≠ (.slice Ao119 y456.length co119 : Value).ownBlock) (fun _ => False) rfl rfl ?aO ?aR (fun _ _ h => h) (fun _ h => h.elim) ?aF ?aB ?aS ?aL ?_; (case aR => repeat (first | exact (an HO458.out).2.2 | (with_reducible refine ay ?_ _) | (with_reducible refine az ?_ _) | (with_reducible refine ba ?_))); (case aB => exact (by repeat (first | (with_reducible first | exact HB.out | apply ae | apply ab | apply ac) | exact HB.out))); (case aF => exact (fun k_ hk => Kd.fresh' (Kd.R_lt (by (with_reducible repeat (first | apply af | apply ag | apply ah)); exact HO458.out)) k_ hk)); (case aO => exact (by (with_reducible repeat (first | apply af | apply ag | apply ah)); exact av HO_23.out (fun _ hk => hk.2))); (case aS => exact (aw (by repeat (first | (with_reducible first | exact HB.out | apply ae | apply ab | apply ac) | exact HB.out)))); (case aL => have := LMc113.out; omega); intro v460 w118 ho hb hg hat; rw [← Ny459.out] at ho; have n0_ := aa (Kd.R_over' (by (with_reducible repeat (first | apply af | apply ag | apply ah)); exact HO_3.out) (bd (by (with_reducible repeat (first | apply af | apply ag | apply ah)); exact HO_23.out)) (by decide) hg); have n1_ := aa (Kd.R_over' (by (with_reducible repeat (first | apply af | apply ag | apply ah)); exact HO_4.out) (bd (by (with_reducible repeat (first | apply af | apply ag | apply ah)); exact HO_23.out)) (by decide) hg); have n2_ := aa (Kd.R_over' (by (with_reducible repeat (first | apply af | apply ag | apply ah)); exact HO_27.out) (bd (by (with_reducible repeat (first | apply af | apply ag | apply ah)); exact HO_23.out)) (by decide) hg); have n3_ := aa (Kd.R_after (ok := (fun _ => True)) (by (with_reducible repeat (first | apply af | apply ag | apply ah)); exact HO458.out) hg hat); have n4_ := aa (hb); have n5_ := aa (ho); clear HO_3; clear HO_4; clear HO_27; clear HO458; clear HB; clear HO_23; have HO_3 := n0_; have HO_4 := n1_; have HO_27 := n2_; have HO458 := n3_; have HB := n4_; have HO461 := n5_; clear n0_ n1_ n2_ n3_ n4_ n5_; clear ho hb hg hat))
                            go_roundg kj83
                            case measure => have := HJ11.out; have := HJ44.out; have := HJ69.out; have := HK4.out; have := HJ75.out; have := HJ83.out; omega
                            case rel => exact ⟨(y459), (wrap64 (x24_4 + 1)), (by first | rfl | (simp; done) | (simp [*]; done)), H', ⟨by have := HJ11.out; have := HJ44.out; have := HJ69.out; have := HK4.out; have := HJ75.out; have := HJ83.out; omega⟩, ⟨by (with_reducible repeat (first | apply af | apply ag | apply ah)); exact HO_3.out⟩, ⟨by (with_reducible repeat (first | apply af | apply ag | apply ah)); exact HO_4.out⟩, ⟨by (with_reducible repeat (first | apply af | apply ag | apply ah)); exact av HO461.out (fun _ hk => trivial)⟩, ⟨by repeat (first | (with_reducible first | exact HB.out | apply ae | apply ab | apply ac) | exact HB.out)⟩⟩
                           ·rw [if_neg c113] at H
                            exact absurd H (by simp)
                         ·rw [if_neg c103] at H
                          exact absurd H (by simp)
                        ·rw [if_neg c101] at H
                         exact absurd H (by simp)
                       ·rw [if_neg c99] at H
                        exact absurd H (by simp)
                   ·rw [if_neg c82] at H
                    exact absurd H (by simp)
                  ·rw [if_neg c81] at H
                   exact absurd H (by simp)
                 ·rw [if_neg c80] at H
                  exact absurd H (by simp)
                ·rw [if_neg c79] at H
                 exact absurd H (by simp)
            ·rw [if_neg c75] at H
             have c75b0 : decide (x24_4 ≤ 1) = false := decide_eq_false c75
             clear c75
             have H' := aa H
             clear H
             go_wp2
             go_loopg [30] k4 (fun kq v30 w' => ∃ (x30_5 : Int), v30 = .int .i64 x30_5 ∧ Aside0 (laws_FnBalanceOf.l1 kq x23_4 x30_5 = some r) ∧ Aside0 (kq ≤ k4) ∧ Aside0 (Kd.R (Kd.int .i64) 2 w' w.heap.size (fun _ => True) u23 x23_4) ∧ Aside0 (Below w.heap.size w w'))
             case atStart => exact ⟨(1), (by first | rfl | (simp; done) | (simp [*]; done)), H', ⟨Nat.le_refl _⟩, ⟨by (with_reducible repeat (first | apply af | apply ag | apply ah)); exact HO_23.out⟩, ⟨by repeat (first | (with_reducible first | exact HB.out | apply ae | apply ab | apply ac) | exact HB.out)⟩⟩
             case round => as_aux_lemma =>
              clear H'
              try clear c1
              try clear p2
              try clear c3
              try clear c4
              try clear p4
              try clear q4
              try clear hx4
              try clear qi4
              try clear c5
              try clear c6
              try clear p6
              try clear c7
              try clear c8
              try clear c9
              try clear c10
              try clear c11
              try clear c36
              try clear p41
              try clear q41
              try clear hx41
              try clear qi41
              try clear c42
              try clear p42
              try clear q42
              try clear hx42
              try clear qi42
              try clear c43
              try clear p43
              try clear q43
              try clear hx43
              try clear c44
              try clear p44
              try clear q44
              try clear hx44
              try clear qi44
              try clear c45
              try clear c46
              try clear c46b0
              try clear c46b1
              try clear c48
              try clear c50
              try clear c50b0
              try clear c50b1
              try clear c52
              try clear c53
              try clear c53b0
              try clear c53b1
              try clear c55
              try clear c55b0
              try clear c56
              try clear c56b0
              try clear c56b1
              try clear c58
              try clear c58b0
              try clear c59
              try clear c59b0
              try clear c59b1
              try clear c61
              try clear c61b0
              try clear c61b1
              try clear c61b2
              try clear c64
              try clear c64b0
              try clear c64b1
              try clear c64b2
              try clear p64
              try clear c67
              try clear c67b0
              try clear c67b1
              try clear c67b2
              try clear c71
              try clear c71b0
              try clear c71b1
              try clear c72
              try clear c75
              try clear c75b0
              try clear c77
              try clear c77b0
              try clear c78
              try clear c79
              try clear c80
              try clear c80b0
              try clear c81
              try clear c81b0
              try clear c82
              try clear c96
              try clear c96b0
              try clear c96b1
              try clear c98
              try clear c99
              try clear c99b0
              try clear c99b1
              try clear c101
              try clear c101b0
              try clear c101b1
              try clear c103
              try clear c103b0
              try clear c103b1
              try clear c105
              try clear c105b0
              try clear c105b1
              try clear c106
              try clear c113
              try clear hx418_0
              try clear hx420_0
              try clear hx422_0
              try clear hx433_0
              try clear hx433_1
              try clear hx444_0
              try clear hx446_0
              try clear hx448_0
              try clear p2
              try clear p4
              try clear p41
              try clear p418
              try clear p42
              try clear p420
              try clear p422
              try clear p43
              try clear p433
              try clear p444
              try clear p446
              try clear p448
              try clear p6
              try clear p64
              try clear q4
              try clear q41
              try clear q418
              try clear q42
              try clear q420
              try clear q422
              try clear q43
              try clear q433
              try clear q444
              try clear q446
              try clear q448
              obtain ⟨x30_5, rfl, HA, HK5, HO_23, HB⟩ := hrel
              cases gk with
              | zero => exact absurd HA.out (by simp [laws_FnBalanceOf.l1])
              | succ k5 =>
               have H := HA.out
               clear HA
               simp only [laws_FnBalanceOf.l1] at H
               by_cases c120 : x30_5 < (x23_4.length : Int)
               ·rw [if_pos c120] at H
                have c120b0 : decide (x30_5 < (x23_4.length : Int)) = true := decide_eq_true c120
                clear c120
                by_cases c121 : 0 ≤ x30_5
                ·rw [if_pos c121] at H
                 have c121b0 : decide (0 ≤ x30_5) = true := decide_eq_true c121
                 clear c121
                 by_cases c122 : 0 < (x23_4.length : Int)
                 ·rw [if_pos c122] at H
                  have c122b0 : decide (0 < (x23_4.length : Int)) = true := decide_eq_true c122
                  have c122b1 : decide (0 < x23_4.length) = true := decide_eq_true (by omega)
                  clear c122
                  by_cases c123 : (rd x23_4 x30_5) < (rd x23_4 0)
                  ·rw [if_pos c123] at H
                   have c123b0 : decide ((rd x23_4 x30_5) < (rd x23_4 0)) = true := decide_eq_true c123
                   clear c123
                   obtain rfl := Option.some.inj H
                   obtain ⟨Ao124, co124, eo124⟩ := bc HO_23.out
                   subst eo124
                   try go_wp2
                   have n0_ := aa (ah HO_23.out)
                   have n1_ := aa (ac HB.out)
                   clear HO_23
                   clear HB
                   have HO_23 := n0_
                   have HB := n1_
                   clear n0_ n1_
                   have p462 : 0 ≤ (x30_5 : Int) := of_decide_eq_true (by first | (with_reducible assumption) | assumption)
                   have q462 : x30_5 < (x23_4.length : Int) := of_decide_eq_true (by first | (with_reducible assumption) | assumption)
                   obtain ⟨ad462, e462, hx462_0⟩ := be (an HO_23.out).2.2 x30_5 p462 q462
                   cases e462
                   replace p462 := eq_true p462
                   replace q462 := eq_true q462
                   have p463 : 0 ≤ (0 : Int) := (by omega)
                   have q463 : 0 < (x23_4.length : Int) := of_decide_eq_true (by first | (with_reducible assumption) | assumption)
                   obtain ⟨ad463, e463, hx463_0⟩ := be (an HO_23.out).2.2 0 p463 q463
                   obtain rfl : ad462 = ad463 := (by injection e463)
                   have qi463 : (0 < x23_4.length) = True := eq_true (by omega)
                   (try rw [show ((0 : Int)).toNat = 0 from rfl] at hx463_0)
                   (try rw [Addr.add_zero'] at hx463_0)
                   replace p463 := eq_true p463
                   replace q463 := eq_true q463
                   refine start_ (n := 8) (S := fun w' => w'.cell? (ad462.add (x30_5).toNat) = some (.int .i64 (rd x23_4 x30_5)) ∧ w'.cell? ad462 = some (.int .i64 (rd x23_4 0))) (ds := []) #[false, false, false, false, false, false, false, false] (by kernel_rfl) rfl rfl ⟨hx462_0, hx463_0⟩ (fun hHeld => ?_); refine with_tabW laws_FnBalanceOf.tab38 laws_FnBalanceOf.bits38 (fun HT_ HW_ => ?_)
                   generalize wr.drew = w125 at HO_23 HB hx462_0 hx463_0 hHeld ⊢
                   refine pure_ (i := 0) (N := some 232) (v := ?_) (a' := ?_) #[true, false, false, false, false, false, false, false] rfl rfl (any_of HT_.out (by kernel_rfl)) (fun _ _ _ h => h) (Or.inl ⟨by rfl, ?_⟩) ?_ ?_
                   rotate_left
                   ·intro w'
                    go_simp
                    with_reducible rfl
                   rotate_left
                   ·simp only [Act.put, List.setIfInBounds_toArray, List.set_cons_zero, List.set_cons_succ, i64_w, i32_w]
                    rfl
                   refine pure_ (i := 1) (N := some 233) (v := ?_) (a' := ?_) #[true, true, false, false, false, false, false, false] rfl rfl (any_of HT_.out (by kernel_rfl)) (fun _ _ _ h => h) (Or.inl ⟨by rfl, ?_⟩) ?_ ?_
                   rotate_left
                   ·intro w'
                    go_simp
                    with_reducible rfl
                   rotate_left
                   ·simp only [Act.put, List.setIfInBounds_toArray, List.set_cons_zero, List.set_cons_succ, i64_w, i32_w]
                    rfl
                   refine pure_ (i := 2) (N := some 234) (v := ?_) (a' := ?_) #[true, true, true, false, false, false, false, false] rfl rfl (any_of HT_.out (by kernel_rfl)) (fun _ _ _ h => h) (Or.inl ⟨by rfl, ?_⟩) ?_ ?_
                   rotate_left
                   ·intro w'
                    go_simp
                    with_reducible rfl
                   rotate_left
                   ·simp only [Act.put, List.setIfInBounds_toArray, List.set_cons_zero, List.set_cons_succ, i64_w, i32_w]
                    rfl
                   refine pure_ (i := 4) (N := some 236) (v := ?_) (a' := ?_) #[true, true, true, false, true, false, false, false] rfl rfl (any_of HT_.out (by kernel_rfl)) (fun _ _ _ h => h) (Or.inl ⟨by rfl, ?_⟩) ?_ ?_
                   rotate_left
                   ·intro w'
                    go_simp
                    with_reducible rfl
                   rotate_left
                   ·simp only [Act.put, List.setIfInBounds_toArray, List.set_cons_zero, List.set_cons_succ, i64_w, i32_w]
                    rfl
                   refine pure_ (i := 5) (N := some 237) (v := ?_) (a' := ?_) #[true, true, true, false, true, true, false, false] rfl rfl (any_of HT_.out (by kernel_rfl)) (fun _ _ _ h => h) (Or.inl ⟨by rfl, ?_⟩) ?_ ?_
                   rotate_left
                   ·intro w'
                    go_simp
                    with_reducible rfl
                   rotate_left
                   ·simp only [Act.put, List.setIfInBounds_toArray, List.set_cons_zero, List.set_cons_succ, i64_w, i32_w]
                    rfl
                   refine take_ (i := 3) (N := some 235) (v := ?_) (a' := ?_) #[true, true, true, true, true, true, false, false] rfl rfl (take_ofW HT_.out HW_.out (by kernel_rfl)) (fun _ _ _ h => h) (Or.inl ⟨by rfl, ?_⟩) hHeld ?_ ?_
                   rotate_left
                   ·rintro w' ⟨s0, s1⟩
                    go_simp
                    with_reducible rfl
                   rotate_left
                   ·simp only [Act.put, List.setIfInBounds_toArray, List.set_cons_zero, List.set_cons_succ, i64_w, i32_w]
                    rfl
                   refine take_ (i := 6) (N := some 238) (v := ?_) (a' := ?_) #[true, true, true, true, true, true, true, false] rfl rfl (take_ofW HT_.out HW_.out (by kernel_rfl)) (fun _ _ _ h => h) (Or.inl ⟨by rfl, ?_⟩) hHeld ?_ ?_
                   rotate_left
                   ·rintro w' ⟨s0, s1⟩
                    go_simp
                    with_reducible rfl
                   rotate_left
                   ·simp only [Act.put, List.setIfInBounds_toArray, List.set_cons_zero, List.set_cons_succ, i64_w, i32_w]
                    rfl
                   refine pure_ (i := 7) (N := some 239) (v := ?_) (a' := ?_) #[true, true, true, true, true, true, true, true] rfl rfl (any_of HT_.out (by kernel_rfl)) (fun _ _ _ h => h) (Or.inl ⟨by rfl, ?_⟩) ?_ ?_
                   rotate_left
                   ·intro w'
                    go_simp
                    with_reducible rfl
                   rotate_left
                   ·simp only [Act.put, List.setIfInBounds_toArray, List.set_cons_zero, List.set_cons_succ, i64_w, i32_w]
                    rfl
                   refine done_ (done_of HT_.out (by kernel_rfl)) ?_
                   try go_wp2
                   go_ret
                   exact ⟨by first | rfl | (simp [errW_none, errW_some] <;> rfl) | (simp [*, errW_none, errW_some] <;> rfl), by repeat (first | (with_reducible first | exact HB.out | apply ae | apply ab | apply ac) | exact HB.out)⟩
                  ·rw [if_neg c123] at H
                   have c123b0 : decide ((rd x23_4 x30_5) < (rd x23_4 0)) = false := decide_eq_false c123
                   clear c123
                   have H' := aa H
                   clear H
                   obtain ⟨Ao126, co126, eo126⟩ := bc HO_23.out
                   subst eo126
                   try go_wp2
                   have n0_ := aa (ah HO_23.out)
                   have n1_ := aa (ac HB.out)
                   clear HO_23
                   clear HB
                   have HO_23 := n0_
                   have HB := n1_
                   clear n0_ n1_
                   have p462 : 0 ≤ (x30_5 : Int) := of_decide_eq_true (by first | (with_reducible assumption) | assumption)
                   have q462 : x30_5 < (x23_4.length : Int) := of_decide_eq_true (by first | (with_reducible assumption) | assumption)
                   obtain ⟨ad462, e462, hx462_0⟩ := be (an HO_23.out).2.2 x30_5 p462 q462
                   cases e462
                   replace p462 := eq_true p462
                   replace q462 := eq_true q462
                   have p463 : 0 ≤ (0 : Int) := (by omega)
                   have q463 : 0 < (x23_4.length : Int) := of_decide_eq_true (by first | (with_reducible assumption) | assumption)
                   obtain ⟨ad463, e463, hx463_0⟩ := be (an HO_23.out).2.2 0 p463 q463
                   obtain rfl : ad462 = ad463 := (by injection e463)
                   have qi463 : (0 < x23_4.length) = True := eq_true (by omega)
                   (try rw [show ((0 : Int)).toNat = 0 from rfl] at hx463_0)
                   (try rw [Addr.add_zero'] at hx463_0)
                   replace p463 := eq_true p463
                   replace q463 := eq_true q463
                   refine start_ (n := 8) (S := fun w' => w'.cell? (ad462.add (x30_5).toNat) = some (.int .i64 (rd x23_4 x30_5)) ∧ w'.cell? ad462 = some (.int .i64 (rd x23_4 0))) (ds := []) #[false, false, false, false, false, false, false, false] (by kernel_rfl) rfl rfl ⟨hx462_0, hx463_0⟩ (fun hHeld => ?_); refine with_tabW laws_FnBalanceOf.tab38 laws_FnBalanceOf.bits38 (fun HT_ HW_ => ?_)
                   generalize wr.drew = w127 at HO_23 HB hx462_0 hx463_0 hHeld ⊢
                   refine pure_ (i := 0) (N := some 232) (v := ?_) (a' := ?_) #[true, false, false, false, false, false, false, false] rfl rfl (any_of HT_.out (by kernel_rfl)) (fun _ _ _ h => h) (Or.inl ⟨by rfl, ?_⟩) ?_ ?_
                   rotate_left
                   ·intro w'
                    go_simp
                    with_reducible rfl
                   rotate_left
                   ·simp only [Act.put, List.setIfInBounds_toArray, List.set_cons_zero, List.set_cons_succ, i64_w, i32_w]
                    rfl
                   refine pure_ (i := 1) (N := some 233) (v := ?_) (a' := ?_) #[true, true, false, false, false, false, false, false] rfl rfl (any_of HT_.out (by kernel_rfl)) (fun _ _ _ h => h) (Or.inl ⟨by rfl, ?_⟩) ?_ ?_
                   rotate_left
                   ·intro w'
                    go_simp
                    with_reducible rfl
                   rotate_left
                   ·simp only [Act.put, List.setIfInBounds_toArray, List.set_cons_zero, List.set_cons_succ, i64_w, i32_w]
                    rfl
                   refine pure_ (i := 2) (N := some 234) (v := ?_) (a' := ?_) #[true, true, true, false, false, false, false, false] rfl rfl (any_of HT_.out (by kernel_rfl)) (fun _ _ _ h => h) (Or.inl ⟨by rfl, ?_⟩) ?_ ?_
                   rotate_left
                   ·intro w'
                    go_simp
                    with_reducible rfl
                   rotate_left
                   ·simp only [Act.put, List.setIfInBounds_toArray, List.set_cons_zero, List.set_cons_succ, i64_w, i32_w]
                    rfl
                   refine pure_ (i := 4) (N := some 236) (v := ?_) (a' := ?_) #[true, true, true, false, true, false, false, false] rfl rfl (any_of HT_.out (by kernel_rfl)) (fun _ _ _ h => h) (Or.inl ⟨by rfl, ?_⟩) ?_ ?_
                   rotate_left
                   ·intro w'
                    go_simp
                    with_reducible rfl
                   rotate_left
                   ·simp only [Act.put, List.setIfInBounds_toArray, List.set_cons_zero, List.set_cons_succ, i64_w, i32_w]
                    rfl
                   refine pure_ (i := 5) (N := some 237) (v := ?_) (a' := ?_) #[true, true, true, false, true, true, false, false] rfl rfl (any_of HT_.out (by kernel_rfl)) (fun _ _ _ h => h) (Or.inl ⟨by rfl, ?_⟩) ?_ ?_
                   rotate_left
                   ·intro w'
                    go_simp
                    with_reducible rfl
                   rotate_left
                   ·simp only [Act.put, List.setIfInBounds_toArray, List.set_cons_zero, List.set_cons_succ, i64_w, i32_w]
                    rfl
                   refine take_ (i := 3) (N := some 235) (v := ?_) (a' := ?_) #[true, true, true, true, true, true, false, false] rfl rfl (take_ofW HT_.out HW_.out (by kernel_rfl)) (fun _ _ _ h => h) (Or.inl ⟨by rfl, ?_⟩) hHeld ?_ ?_
                   rotate_left
                   ·rintro w' ⟨s0, s1⟩
                    go_simp
                    with_reducible rfl
                   rotate_left
                   ·simp only [Act.put, List.setIfInBounds_toArray, List.set_cons_zero, List.set_cons_succ, i64_w, i32_w]
                    rfl
                   refine take_ (i := 6) (N := some 238) (v := ?_) (a' := ?_) #[true, true, true, true, true, true, true, false] rfl rfl (take_ofW HT_.out HW_.out (by kernel_rfl)) (fun _ _ _ h => h) (Or.inl ⟨by rfl, ?_⟩) hHeld ?_ ?_
                   rotate_left
                   ·rintro w' ⟨s0, s1⟩
                    go_simp
                    with_reducible rfl
                   rotate_left
                   ·simp only [Act.put, List.setIfInBounds_toArray, List.set_cons_zero, List.set_cons_succ, i64_w, i32_w]
                    rfl
                   refine pure_ (i := 7) (N := some 239) (v := ?_) (a' := ?_) #[true, true, true, true, true, true, true, true] rfl rfl (any_of HT_.out (by kernel_rfl)) (fun _ _ _ h => h) (Or.inl ⟨by rfl, ?_⟩) ?_ ?_
                   rotate_left
                   ·intro w'
                    go_simp
                    with_reducible rfl
                   rotate_left
                   ·simp only [Act.put, List.setIfInBounds_toArray, List.set_cons_zero, List.set_cons_succ, i64_w, i32_w]
                    rfl
                   refine done_ (done_of HT_.out (by kernel_rfl)) ?_
                   try go_wp2
                   go_roundg k5
                   case measure => have := HJ11.out; have := HJ44.out; have := HJ69.out; have := HK4.out; have := HK5.out; omega
                   case rel => exact ⟨(wrap64 (x30_5 + 1)), (by first | rfl | (simp; done) | (simp [*]; done)), H', ⟨by have := HJ11.out; have := HJ44.out; have := HJ69.out; have := HK4.out; have := HK5.out; omega⟩, ⟨by (with_reducible repeat (first | apply af | apply ag | apply ah)); exact HO_23.out⟩, ⟨by repeat (first | (with_reducible first | exact HB.out | apply ae | apply ab | apply ac) | exact HB.out)⟩⟩
                 ·rw [if_neg c122] at H
                  exact absurd H (by simp)
                ·rw [if_neg c121] at H
                 exact absurd H (by simp)
               ·rw [if_neg c120] at H
                have c120b0 : decide (x30_5 < (x23_4.length : Int)) = false := decide_eq_false c120
                clear c120
                obtain rfl := Option.some.inj H
                obtain ⟨Ao128, co128, eo128⟩ := bc HO_23.out
                subst eo128
                go_wp2
                go_ret
                exact ⟨by first | rfl | (simp [errW_none, errW_some] <;> rfl) | (simp [*, errW_none, errW_some] <;> rfl), by repeat (first | (with_reducible first | exact HB.out | apply ae | apply ab | apply ac) | exact HB.out)⟩

/-- THE ONE PURE STATEMENT of laws_FnBalanceOf: yours. -/
def laws_FnBalanceOf.Pure : Prop := ∀ (l0 : List Int), l0.length ≤ maxLen → l0.length * 1 ≤ 140737488351232 → (∀ x ∈ l0, (Lit.int .u8 x).wf = true) → ∃ k, laws_FnBalanceOf.f k l0 = some true
theorem laws_FnBalanceOf.walk (P : laws_FnBalanceOf.Pure) (a0 : Option Addr) (len0 cap0 : Nat) (z0 : List Int) (w : World) (w0 : (a0 = none ∧ len0 = 0 ∧ cap0 = 0 ∧ z0 = []) ∨ ∃ x, a0 = some x ∧ len0 ≤ cap0 ∧ cap0 ≤ maxLen ∧ z0.length = cap0 ∧ (∀ i, i < z0.length → w.cell? (x.add i) = some (.int .u8 (z0.getD i 0))) ∧ ∀ n ∈ z0, (Lit.int .u8 n).wf = true) (y0 : len0 * 1 ≤ 140737488351232) :
  Calls Try.prog 14 #[.slice a0 len0 cap0] w fun e w' => e = .returned (.bool true) ∧ Below w.heap.size w w' := by
 obtain ⟨l0, rfl, hr0, hm0, hw0, hc0⟩ := ReadsInt.ofRowC w0
 obtain ⟨k, h⟩ := P l0 hm0 y0 hw0
 refine (laws_FnBalanceOf.calls k _ _ l0 true w (Kd.C_of_reads (d := (0 : Int)) (h1 := fun _ => rfl) hr0) hc0 h).mono ?_
 rintro e w' ⟨rfl, hd⟩
 exact ⟨rfl, hd⟩

end Go.Proofs.Ytncejfhmachapaa.QFnBalanceOf
