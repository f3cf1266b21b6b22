/- Walks of the Go functions that the law FnSeamsHidden reaches: written by a program of this session. -/
import Derived.Test.YtfpddpkloplpeaaDoorQFnSeamsHiddenx0
import Derived.Test.YtfpddpkloplpeaaDoorQFnSeamsHiddenx2
import Derived.Test.YtfpddpkloplpeaaDoorQFnSeamsHiddenx3
import Derived.Test.YtfpddpkloplpeaaDoorQFnSeamsHiddenx4
import Derived.Test.YtfpddpkloplpeaaDoorQFnSeamsHiddenx6
import Derived.Test.YtfpddpkloplpeaaDoorQFnSeamsHiddenx7
namespace Go.Proofs.YtfpddpkloplpeaaDoor.QFnSeamsHidden
open Go.RowKit Go.Proofs.YtfpddpkloplpeaaDoorW.PrintWords Go.Proofs.YtfpddpkloplpeaaDoorW.PrintLast Go.Proofs.YtfpddpkloplpeaaDoorW.PrintMore
attribute [local go_sem] max2_int min2_int max_two min_two max_three min_three max_four min_four   -- for this text's walks alone
set_option linter.unusedVariables false
set_option linter.unusedSimpArgs false

/-! ### laws_FnSeamsHidden: function 5 -/
mutual
def laws_FnSeamsHidden.j0 : Nat → ByteArray → List Int → Int → Int → Int → List Int → Int → ByteArray → Bool → Option (Bool)
  | 0, _, _, _, _, _, _, _, _, _ => none
  | k + 1, x3, x4, x5, x9, x10, x12, x14, x15, x92 => if x92 = true then (some false) else (if x9 = 0 then (laws_FnSeamsHidden.j1 k x3 x4 x5 x12 x14 x15 ((decide (x10 > 0)) != (x5 == 0))) else (laws_FnSeamsHidden.j1 k x3 x4 x5 x12 x14 x15 false))
def laws_FnSeamsHidden.j1 : Nat → ByteArray → List Int → Int → List Int → Int → ByteArray → Bool → Option (Bool)
  | 0, _, _, _, _, _, _, _ => none
  | k + 1, x3, x4, x5, x12, x14, x15, x101 => if x101 = true then (some false) else (if x14 = 0 then ((impl_OrderFor.f k x15).bind fun bt351 => (if bt351.2 = 0 then (laws_FnSeamsHidden.j2 k x3 x4 x5 ((bt351.1.length : Int) != (x12.length : Int))) else (laws_FnSeamsHidden.j2 k x3 x4 x5 true))) else (if x5 = 0 then ((impl_UpperAt.f k x4).bind fun bt357 => (if bt357.2 = 0 then (some (bt357.1.toList == x3.toList)) else (some false))) else (some true)))
def laws_FnSeamsHidden.j2 : Nat → ByteArray → List Int → Int → Bool → Option (Bool)
  | 0, _, _, _, _ => none
  | k + 1, x3, x4, x5, x117 => if x117 = true then (some false) else (if x5 = 0 then ((impl_UpperAt.f k x4).bind fun bt355 => (if bt355.2 = 0 then (some (bt355.1.toList == x3.toList)) else (some false))) else (some true))
end
def laws_FnSeamsHidden.f (k : Nat) (l0 : List Int) : Option (Bool) := (laws_f6big.f l0).bind fun t327 => (if t327 = true then (some true) else ((spec_DrawOrderFor.f k l0).bind fun t328 => ((impl_OrderFor.f k t328).bind fun bt329 => ((spec_OrderFor.f k t328).bind fun bt333 => ((impl_CountOrders.f k t328).bind fun bt337 => ((spec_CountOrders.f k t328).bind fun bt339 => ((spec_DrawUpperAt.f k l0).bind fun t341 => ((impl_UpperAt.f k t341).bind fun bt344 => ((spec_UpperAt.f k t341).bind fun bt346 => (if bt329.2 = bt333.2 then ((laws_f6ints.f k bt329.1 bt333.1).bind fun t348 => (if t348 = true then (if bt337.2 = bt339.2 then (if bt337.1 = bt339.1 then (if bt344.2 = bt346.2 then (if bt344.1.toList = bt346.1.toList then ((impl_ValidOrder.f k t341).bind fun t349 => ((spec_ValidOrder.f k t341).bind fun t350 => (laws_FnSeamsHidden.j0 k t328 bt329.1 bt329.2 bt337.2 bt339.1 t341 bt344.2 bt346.1 (t349 != t350)))) else (laws_FnSeamsHidden.j0 k t328 bt329.1 bt329.2 bt337.2 bt339.1 t341 bt344.2 bt346.1 true)) else (laws_FnSeamsHidden.j0 k t328 bt329.1 bt329.2 bt337.2 bt339.1 t341 bt344.2 bt346.1 true)) else (laws_FnSeamsHidden.j0 k t328 bt329.1 bt329.2 bt337.2 bt339.1 t341 bt344.2 bt346.1 true)) else (laws_FnSeamsHidden.j0 k t328 bt329.1 bt329.2 bt337.2 bt339.1 t341 bt344.2 bt346.1 true)) else (laws_FnSeamsHidden.j0 k t328 bt329.1 bt329.2 bt337.2 bt339.1 t341 bt344.2 bt346.1 true))) else (laws_FnSeamsHidden.j0 k t328 bt329.1 bt329.2 bt337.2 bt339.1 t341 bt344.2 bt346.1 true)))))))))))
theorem laws_FnSeamsHidden.mono_l : ∀ k, (∀ y0 y1 y2 y3 y4 y5 y6 y7 y8, LeO (laws_FnSeamsHidden.j0 k y0 y1 y2 y3 y4 y5 y6 y7 y8) (laws_FnSeamsHidden.j0 (k + 1) y0 y1 y2 y3 y4 y5 y6 y7 y8)) ∧ (∀ y0 y1 y2 y3 y4 y5 y6, LeO (laws_FnSeamsHidden.j1 k y0 y1 y2 y3 y4 y5 y6) (laws_FnSeamsHidden.j1 (k + 1) y0 y1 y2 y3 y4 y5 y6)) ∧ (∀ y0 y1 y2 y3, LeO (laws_FnSeamsHidden.j2 k y0 y1 y2 y3) (laws_FnSeamsHidden.j2 (k + 1) y0 y1 y2 y3))
  | 0 => ⟨fun _ _ _ _ _ _ _ _ _ r h => by simp [laws_FnSeamsHidden.j0] at h, fun _ _ _ _ _ _ _ r h => by simp [laws_FnSeamsHidden.j1] at h, fun _ _ _ _ r h => by simp [laws_FnSeamsHidden.j2] at h⟩
  | k + 1 => by
    obtain ⟨ih0, ih1, ih2⟩ := laws_FnSeamsHidden.mono_l k
    refine ⟨?_, ?_, ?_⟩
    · intro y0 y1 y2 y3 y4 y5 y6 y7 y8
      unfold laws_FnSeamsHidden.j0
      repeat' first
      | (with_reducible exact ih0 _ _ _ _ _ _ _ _ _)
      | (with_reducible exact ih1 _ _ _ _ _ _ _)
      | (with_reducible exact ih2 _ _ _ _)
      | (with_reducible exact impl_CountOrders.mono _ _)
      | (with_reducible exact impl_OrderFor.mono _ _)
      | (with_reducible exact impl_UpperAt.mono _ _)
      | (with_reducible exact impl_ValidOrder.mono _ _)
      | (with_reducible exact laws_f6ints.mono _ _ _)
      | (with_reducible exact spec_CountOrders.mono _ _)
      | (with_reducible exact spec_DrawOrderFor.mono _ _)
      | (with_reducible exact spec_DrawUpperAt.mono _ _)
      | (with_reducible exact spec_OrderFor.mono _ _)
      | (with_reducible exact spec_UpperAt.mono _ _)
      | (with_reducible exact spec_ValidOrder.mono _ _)
      | (with_reducible exact LeO.refl _)
      | (with_reducible exact LeO.none _)
      | (with_reducible refine LeO.ite ?_ ?_)
      | (with_reducible refine LeO.bind ?_ (fun _ => ?_))
      | exact ih0 _ _ _ _ _ _ _ _ _
      | exact ih1 _ _ _ _ _ _ _
      | exact ih2 _ _ _ _
      | exact impl_CountOrders.mono _ _
      | exact impl_OrderFor.mono _ _
      | exact impl_UpperAt.mono _ _
      | exact impl_ValidOrder.mono _ _
      | exact laws_f6ints.mono _ _ _
      | exact spec_CountOrders.mono _ _
      | exact spec_DrawOrderFor.mono _ _
      | exact spec_DrawUpperAt.mono _ _
      | exact spec_OrderFor.mono _ _
      | exact spec_UpperAt.mono _ _
      | exact spec_ValidOrder.mono _ _
      | exact LeO.none _
      | refine LeO.ite ?_ ?_
      | refine LeO.bind ?_ (fun _ => ?_)
    · intro y0 y1 y2 y3 y4 y5 y6
      unfold laws_FnSeamsHidden.j1
      repeat' first
      | (with_reducible exact ih0 _ _ _ _ _ _ _ _ _)
      | (with_reducible exact ih1 _ _ _ _ _ _ _)
      | (with_reducible exact ih2 _ _ _ _)
      | (with_reducible exact impl_CountOrders.mono _ _)
      | (with_reducible exact impl_OrderFor.mono _ _)
      | (with_reducible exact impl_UpperAt.mono _ _)
      | (with_reducible exact impl_ValidOrder.mono _ _)
      | (with_reducible exact laws_f6ints.mono _ _ _)
      | (with_reducible exact spec_CountOrders.mono _ _)
      | (with_reducible exact spec_DrawOrderFor.mono _ _)
      | (with_reducible exact spec_DrawUpperAt.mono _ _)
      | (with_reducible exact spec_OrderFor.mono _ _)
      | (with_reducible exact spec_UpperAt.mono _ _)
      | (with_reducible exact spec_ValidOrder.mono _ _)
      | (with_reducible exact LeO.refl _)
      | (with_reducible exact LeO.none _)
      | (with_reducible refine LeO.ite ?_ ?_)
      | (with_reducible refine LeO.bind ?_ (fun _ => ?_))
      | exact ih0 _ _ _ _ _ _ _ _ _
      | exact ih1 _ _ _ _ _ _ _
      | exact ih2 _ _ _ _
      | exact impl_CountOrders.mono _ _
      | exact impl_OrderFor.mono _ _
      | exact impl_UpperAt.mono _ _
      | exact impl_ValidOrder.mono _ _
      | exact laws_f6ints.mono _ _ _
      | exact spec_CountOrders.mono _ _
      | exact spec_DrawOrderFor.mono _ _
      | exact spec_DrawUpperAt.mono _ _
      | exact spec_OrderFor.mono _ _
      | exact spec_UpperAt.mono _ _
      | exact spec_ValidOrder.mono _ _
      | exact LeO.none _
      | refine LeO.ite ?_ ?_
      | refine LeO.bind ?_ (fun _ => ?_)
    · intro y0 y1 y2 y3
      unfold laws_FnSeamsHidden.j2
      repeat' first
      | (with_reducible exact ih0 _ _ _ _ _ _ _ _ _)
      | (with_reducible exact ih1 _ _ _ _ _ _ _)
      | (with_reducible exact ih2 _ _ _ _)
      | (with_reducible exact impl_CountOrders.mono _ _)
      | (with_reducible exact impl_OrderFor.mono _ _)
      | (with_reducible exact impl_UpperAt.mono _ _)
      | (with_reducible exact impl_ValidOrder.mono _ _)
      | (with_reducible exact laws_f6ints.mono _ _ _)
      | (with_reducible exact spec_CountOrders.mono _ _)
      | (with_reducible exact spec_DrawOrderFor.mono _ _)
      | (with_reducible exact spec_DrawUpperAt.mono _ _)
      | (with_reducible exact spec_OrderFor.mono _ _)
      | (with_reducible exact spec_UpperAt.mono _ _)
      | (with_reducible exact spec_ValidOrder.mono _ _)
      | (with_reducible exact LeO.refl _)
      | (with_reducible exact LeO.none _)
      | (with_reducible refine LeO.ite ?_ ?_)
      | (with_reducible refine LeO.bind ?_ (fun _ => ?_))
      | exact ih0 _ _ _ _ _ _ _ _ _
      | exact ih1 _ _ _ _ _ _ _
      | exact ih2 _ _ _ _
      | exact impl_CountOrders.mono _ _
      | exact impl_OrderFor.mono _ _
      | exact impl_UpperAt.mono _ _
      | exact impl_ValidOrder.mono _ _
      | exact laws_f6ints.mono _ _ _
      | exact spec_CountOrders.mono _ _
      | exact spec_DrawOrderFor.mono _ _
      | exact spec_DrawUpperAt.mono _ _
      | exact spec_OrderFor.mono _ _
      | exact spec_UpperAt.mono _ _
      | exact spec_ValidOrder.mono _ _
      | exact LeO.none _
      | refine LeO.ite ?_ ?_
      | refine LeO.bind ?_ (fun _ => ?_)
theorem laws_FnSeamsHidden.mono : ∀ a0 k, LeO (laws_FnSeamsHidden.f k a0) (laws_FnSeamsHidden.f (k + 1) a0) := by
  intro a0 k
  obtain ⟨ih0, ih1, ih2⟩ := laws_FnSeamsHidden.mono_l k
  unfold laws_FnSeamsHidden.f
  repeat' first
      | (with_reducible exact ih0 _ _ _ _ _ _ _ _ _)
      | (with_reducible exact ih1 _ _ _ _ _ _ _)
      | (with_reducible exact ih2 _ _ _ _)
      | (with_reducible exact impl_CountOrders.mono _ _)
      | (with_reducible exact impl_OrderFor.mono _ _)
      | (with_reducible exact impl_UpperAt.mono _ _)
      | (with_reducible exact impl_ValidOrder.mono _ _)
      | (with_reducible exact laws_f6ints.mono _ _ _)
      | (with_reducible exact spec_CountOrders.mono _ _)
      | (with_reducible exact spec_DrawOrderFor.mono _ _)
      | (with_reducible exact spec_DrawUpperAt.mono _ _)
      | (with_reducible exact spec_OrderFor.mono _ _)
      | (with_reducible exact spec_UpperAt.mono _ _)
      | (with_reducible exact spec_ValidOrder.mono _ _)
      | (with_reducible exact LeO.refl _)
      | (with_reducible exact LeO.none _)
      | (with_reducible refine LeO.ite ?_ ?_)
      | (with_reducible refine LeO.bind ?_ (fun _ => ?_))
      | exact ih0 _ _ _ _ _ _ _ _ _
      | exact ih1 _ _ _ _ _ _ _
      | exact ih2 _ _ _ _
      | exact impl_CountOrders.mono _ _
      | exact impl_OrderFor.mono _ _
      | exact impl_UpperAt.mono _ _
      | exact impl_ValidOrder.mono _ _
      | exact laws_f6ints.mono _ _ _
      | exact spec_CountOrders.mono _ _
      | exact spec_DrawOrderFor.mono _ _
      | exact spec_DrawUpperAt.mono _ _
      | exact spec_OrderFor.mono _ _
      | exact spec_UpperAt.mono _ _
      | exact spec_ValidOrder.mono _ _
      | exact LeO.none _
      | refine LeO.ite ?_ ?_
      | refine LeO.bind ?_ (fun _ => ?_)
set_option maxHeartbeats 8000000 in
set_option maxRecDepth 100000 in
theorem laws_FnSeamsHidden.calls (k : Nat) (A0 : Option Addr) (c0 : Nat) (l0 : List Int) (r : Bool) (w : World) (hr0 : Kd.C (Kd.int .u8) w A0 l0.length l0) (hc0 : l0.length ≤ c0) (h : laws_FnSeamsHidden.f k l0 = some r) :
    Calls Tryd.prog 5 #[.slice A0 l0.length c0] w fun e w' => e = .returned (.bool r) ∧ Below w.heap.size w w' := by
  have HR0 := Aside0.mk hr0
  have HC0 := Aside0.mk hc0
  clear hr0 hc0
  have HB := Aside0.mk (Below.refl w.heap.size w)
  have H : ((laws_f6big.f l0).bind fun t327 => (if t327 = true then (some true) else ((spec_DrawOrderFor.f k l0).bind fun t328 => ((impl_OrderFor.f k t328).bind fun bt329 => ((spec_OrderFor.f k t328).bind fun bt333 => ((impl_CountOrders.f k t328).bind fun bt337 => ((spec_CountOrders.f k t328).bind fun bt339 => ((spec_DrawUpperAt.f k l0).bind fun t341 => ((impl_UpperAt.f k t341).bind fun bt344 => ((spec_UpperAt.f k t341).bind fun bt346 => (if bt329.2 = bt333.2 then ((laws_f6ints.f k bt329.1 bt333.1).bind fun t348 => (if t348 = true then (if bt337.2 = bt339.2 then (if bt337.1 = bt339.1 then (if bt344.2 = bt346.2 then (if bt344.1.toList = bt346.1.toList then ((impl_ValidOrder.f k t341).bind fun t349 => ((spec_ValidOrder.f k t341).bind fun t350 => (laws_FnSeamsHidden.j0 k t328 bt329.1 bt329.2 bt337.2 bt339.1 t341 bt344.2 bt346.1 (t349 != t350)))) else (laws_FnSeamsHidden.j0 k t328 bt329.1 bt329.2 bt337.2 bt339.1 t341 bt344.2 bt346.1 true)) else (laws_FnSeamsHidden.j0 k t328 bt329.1 bt329.2 bt337.2 bt339.1 t341 bt344.2 bt346.1 true)) else (laws_FnSeamsHidden.j0 k t328 bt329.1 bt329.2 bt337.2 bt339.1 t341 bt344.2 bt346.1 true)) else (laws_FnSeamsHidden.j0 k t328 bt329.1 bt329.2 bt337.2 bt339.1 t341 bt344.2 bt346.1 true)) else (laws_FnSeamsHidden.j0 k t328 bt329.1 bt329.2 bt337.2 bt339.1 t341 bt344.2 bt346.1 true))) else (laws_FnSeamsHidden.j0 k t328 bt329.1 bt329.2 bt337.2 bt339.1 t341 bt344.2 bt346.1 true)))))))))))) = some r := h
  clear h
  replace H := Option.bind_eq_some_iff.mp H
  obtain ⟨t327, A20, H⟩ := H
  replace H : (if t327 = true then (some true) else ((spec_DrawOrderFor.f k l0).bind fun t328 => ((impl_OrderFor.f k t328).bind fun bt329 => ((spec_OrderFor.f k t328).bind fun bt333 => ((impl_CountOrders.f k t328).bind fun bt337 => ((spec_CountOrders.f k t328).bind fun bt339 => ((spec_DrawUpperAt.f k l0).bind fun t341 => ((impl_UpperAt.f k t341).bind fun bt344 => ((spec_UpperAt.f k t341).bind fun bt346 => (if bt329.2 = bt333.2 then ((laws_f6ints.f k bt329.1 bt333.1).bind fun t348 => (if t348 = true then (if bt337.2 = bt339.2 then (if bt337.1 = bt339.1 then (if bt344.2 = bt346.2 then (if bt344.1.toList = bt346.1.toList then ((impl_ValidOrder.f k t341).bind fun t349 => ((spec_ValidOrder.f k t341).bind fun t350 => (laws_FnSeamsHidden.j0 k t328 bt329.1 bt329.2 bt337.2 bt339.1 t341 bt344.2 bt346.1 (t349 != t350)))) else (laws_FnSeamsHidden.j0 k t328 bt329.1 bt329.2 bt337.2 bt339.1 t341 bt344.2 bt346.1 true)) else (laws_FnSeamsHidden.j0 k t328 bt329.1 bt329.2 bt337.2 bt339.1 t341 bt344.2 bt346.1 true)) else (laws_FnSeamsHidden.j0 k t328 bt329.1 bt329.2 bt337.2 bt339.1 t341 bt344.2 bt346.1 true)) else (laws_FnSeamsHidden.j0 k t328 bt329.1 bt329.2 bt337.2 bt339.1 t341 bt344.2 bt346.1 true)) else (laws_FnSeamsHidden.j0 k t328 bt329.1 bt329.2 bt337.2 bt339.1 t341 bt344.2 bt346.1 true))) else (laws_FnSeamsHidden.j0 k t328 bt329.1 bt329.2 bt337.2 bt339.1 t341 bt344.2 bt346.1 true))))))))))) = some r := H
  have A2 := Aside0.mk A20
  clear A20
  by_cases c3 : t327 = true
  · subst c3
    have H1 : (some true) = some r := by rw [if_pos rfl] at H; exact H
    clear H
    have H := H1
    clear H1
    obtain rfl := Option.some.inj H
    go_enter Tryd.func5, Tryd.ntmps5
    go_wp2_with (first | ((with_reducible refine gate_callee (f := 13) rfl ?_); refine goesL_ (some 22) rfl rfl Tryd.func13 (by kernel_rfl) rfl #[.slice A0 l0.length c0] rfl (by (try simp only [List.map_toArray, List.map_cons, List.map_nil]); first | done | rfl | (simp only [List.length_drop, List.length_take]; rfl)) ?_; (with_reducible refine (laws_f6big.calls _ _ l0 true _ ?side1 ?side2 A2.out).mono ?_); (case side1 => repeat (first | exact HR0.out | (with_reducible refine Kd.C_alloc ?_ _) | (with_reducible refine Kd.C_drewN ?_ _) | (with_reducible refine Kd.C_drew ?_))); (case side2 => exact HC0.out); rintro e w' ⟨rfl, ⟨nd, rfl⟩⟩; refine ⟨_, rfl, ?_⟩))
    go_ret
    exact ⟨by first | rfl | (simp [errW_none, errW_some] <;> rfl) | (simp [*, errW_none, errW_some] <;> rfl), by repeat (first | (with_reducible first | exact HB.out | apply below_alloc | apply pw_below_drewN | apply below_drew1) | exact HB.out)⟩
  · replace c3 := Bool.eq_false_iff.mpr c3
    subst c3
    have H1 : ((spec_DrawOrderFor.f k l0).bind fun t328 => ((impl_OrderFor.f k t328).bind fun bt329 => ((spec_OrderFor.f k t328).bind fun bt333 => ((impl_CountOrders.f k t328).bind fun bt337 => ((spec_CountOrders.f k t328).bind fun bt339 => ((spec_DrawUpperAt.f k l0).bind fun t341 => ((impl_UpperAt.f k t341).bind fun bt344 => ((spec_UpperAt.f k t341).bind fun bt346 => (if bt329.2 = bt333.2 then ((laws_f6ints.f k bt329.1 bt333.1).bind fun t348 => (if t348 = true then (if bt337.2 = bt339.2 then (if bt337.1 = bt339.1 then (if bt344.2 = bt346.2 then (if bt344.1.toList = bt346.1.toList then ((impl_ValidOrder.f k t341).bind fun t349 => ((spec_ValidOrder.f k t341).bind fun t350 => (laws_FnSeamsHidden.j0 k t328 bt329.1 bt329.2 bt337.2 bt339.1 t341 bt344.2 bt346.1 (t349 != t350)))) else (laws_FnSeamsHidden.j0 k t328 bt329.1 bt329.2 bt337.2 bt339.1 t341 bt344.2 bt346.1 true)) else (laws_FnSeamsHidden.j0 k t328 bt329.1 bt329.2 bt337.2 bt339.1 t341 bt344.2 bt346.1 true)) else (laws_FnSeamsHidden.j0 k t328 bt329.1 bt329.2 bt337.2 bt339.1 t341 bt344.2 bt346.1 true)) else (laws_FnSeamsHidden.j0 k t328 bt329.1 bt329.2 bt337.2 bt339.1 t341 bt344.2 bt346.1 true)) else (laws_FnSeamsHidden.j0 k t328 bt329.1 bt329.2 bt337.2 bt339.1 t341 bt344.2 bt346.1 true))) else (laws_FnSeamsHidden.j0 k t328 bt329.1 bt329.2 bt337.2 bt339.1 t341 bt344.2 bt346.1 true)))))))))) = some r := by rw [if_neg (show ¬ (false = true) by decide)] at H; exact H
    clear H
    have H := H1
    clear H1
    replace H := Option.bind_eq_some_iff.mp H
    obtain ⟨t328, A40, H⟩ := H
    replace H : ((impl_OrderFor.f k t328).bind fun bt329 => ((spec_OrderFor.f k t328).bind fun bt333 => ((impl_CountOrders.f k t328).bind fun bt337 => ((spec_CountOrders.f k t328).bind fun bt339 => ((spec_DrawUpperAt.f k l0).bind fun t341 => ((impl_UpperAt.f k t341).bind fun bt344 => ((spec_UpperAt.f k t341).bind fun bt346 => (if bt329.2 = bt333.2 then ((laws_f6ints.f k bt329.1 bt333.1).bind fun t348 => (if t348 = true then (if bt337.2 = bt339.2 then (if bt337.1 = bt339.1 then (if bt344.2 = bt346.2 then (if bt344.1.toList = bt346.1.toList then ((impl_ValidOrder.f k t341).bind fun t349 => ((spec_ValidOrder.f k t341).bind fun t350 => (laws_FnSeamsHidden.j0 k t328 bt329.1 bt329.2 bt337.2 bt339.1 t341 bt344.2 bt346.1 (t349 != t350)))) else (laws_FnSeamsHidden.j0 k t328 bt329.1 bt329.2 bt337.2 bt339.1 t341 bt344.2 bt346.1 true)) else (laws_FnSeamsHidden.j0 k t328 bt329.1 bt329.2 bt337.2 bt339.1 t341 bt344.2 bt346.1 true)) else (laws_FnSeamsHidden.j0 k t328 bt329.1 bt329.2 bt337.2 bt339.1 t341 bt344.2 bt346.1 true)) else (laws_FnSeamsHidden.j0 k t328 bt329.1 bt329.2 bt337.2 bt339.1 t341 bt344.2 bt346.1 true)) else (laws_FnSeamsHidden.j0 k t328 bt329.1 bt329.2 bt337.2 bt339.1 t341 bt344.2 bt346.1 true))) else (laws_FnSeamsHidden.j0 k t328 bt329.1 bt329.2 bt337.2 bt339.1 t341 bt344.2 bt346.1 true))))))))) = some r := H
    have A4 := Aside0.mk A40
    clear A40
    replace H := Option.bind_eq_some_iff.mp H
    obtain ⟨⟨t329, t330⟩, A50, H⟩ := H
    replace H : ((spec_OrderFor.f k t328).bind fun bt333 => ((impl_CountOrders.f k t328).bind fun bt337 => ((spec_CountOrders.f k t328).bind fun bt339 => ((spec_DrawUpperAt.f k l0).bind fun t341 => ((impl_UpperAt.f k t341).bind fun bt344 => ((spec_UpperAt.f k t341).bind fun bt346 => (if t330 = bt333.2 then ((laws_f6ints.f k t329 bt333.1).bind fun t348 => (if t348 = true then (if bt337.2 = bt339.2 then (if bt337.1 = bt339.1 then (if bt344.2 = bt346.2 then (if bt344.1.toList = bt346.1.toList then ((impl_ValidOrder.f k t341).bind fun t349 => ((spec_ValidOrder.f k t341).bind fun t350 => (laws_FnSeamsHidden.j0 k t328 t329 t330 bt337.2 bt339.1 t341 bt344.2 bt346.1 (t349 != t350)))) else (laws_FnSeamsHidden.j0 k t328 t329 t330 bt337.2 bt339.1 t341 bt344.2 bt346.1 true)) else (laws_FnSeamsHidden.j0 k t328 t329 t330 bt337.2 bt339.1 t341 bt344.2 bt346.1 true)) else (laws_FnSeamsHidden.j0 k t328 t329 t330 bt337.2 bt339.1 t341 bt344.2 bt346.1 true)) else (laws_FnSeamsHidden.j0 k t328 t329 t330 bt337.2 bt339.1 t341 bt344.2 bt346.1 true)) else (laws_FnSeamsHidden.j0 k t328 t329 t330 bt337.2 bt339.1 t341 bt344.2 bt346.1 true))) else (laws_FnSeamsHidden.j0 k t328 t329 t330 bt337.2 bt339.1 t341 bt344.2 bt346.1 true)))))))) = some r := H
    have A5 := Aside0.mk A50
    clear A50
    replace H := Option.bind_eq_some_iff.mp H
    obtain ⟨⟨t333, t334⟩, A60, H⟩ := H
    replace H : ((impl_CountOrders.f k t328).bind fun bt337 => ((spec_CountOrders.f k t328).bind fun bt339 => ((spec_DrawUpperAt.f k l0).bind fun t341 => ((impl_UpperAt.f k t341).bind fun bt344 => ((spec_UpperAt.f k t341).bind fun bt346 => (if t330 = t334 then ((laws_f6ints.f k t329 t333).bind fun t348 => (if t348 = true then (if bt337.2 = bt339.2 then (if bt337.1 = bt339.1 then (if bt344.2 = bt346.2 then (if bt344.1.toList = bt346.1.toList then ((impl_ValidOrder.f k t341).bind fun t349 => ((spec_ValidOrder.f k t341).bind fun t350 => (laws_FnSeamsHidden.j0 k t328 t329 t330 bt337.2 bt339.1 t341 bt344.2 bt346.1 (t349 != t350)))) else (laws_FnSeamsHidden.j0 k t328 t329 t330 bt337.2 bt339.1 t341 bt344.2 bt346.1 true)) else (laws_FnSeamsHidden.j0 k t328 t329 t330 bt337.2 bt339.1 t341 bt344.2 bt346.1 true)) else (laws_FnSeamsHidden.j0 k t328 t329 t330 bt337.2 bt339.1 t341 bt344.2 bt346.1 true)) else (laws_FnSeamsHidden.j0 k t328 t329 t330 bt337.2 bt339.1 t341 bt344.2 bt346.1 true)) else (laws_FnSeamsHidden.j0 k t328 t329 t330 bt337.2 bt339.1 t341 bt344.2 bt346.1 true))) else (laws_FnSeamsHidden.j0 k t328 t329 t330 bt337.2 bt339.1 t341 bt344.2 bt346.1 true))))))) = some r := H
    have A6 := Aside0.mk A60
    clear A60
    replace H := Option.bind_eq_some_iff.mp H
    obtain ⟨⟨t337, t338⟩, A70, H⟩ := H
    replace H : ((spec_CountOrders.f k t328).bind fun bt339 => ((spec_DrawUpperAt.f k l0).bind fun t341 => ((impl_UpperAt.f k t341).bind fun bt344 => ((spec_UpperAt.f k t341).bind fun bt346 => (if t330 = t334 then ((laws_f6ints.f k t329 t333).bind fun t348 => (if t348 = true then (if t338 = bt339.2 then (if t337 = bt339.1 then (if bt344.2 = bt346.2 then (if bt344.1.toList = bt346.1.toList then ((impl_ValidOrder.f k t341).bind fun t349 => ((spec_ValidOrder.f k t341).bind fun t350 => (laws_FnSeamsHidden.j0 k t328 t329 t330 t338 bt339.1 t341 bt344.2 bt346.1 (t349 != t350)))) else (laws_FnSeamsHidden.j0 k t328 t329 t330 t338 bt339.1 t341 bt344.2 bt346.1 true)) else (laws_FnSeamsHidden.j0 k t328 t329 t330 t338 bt339.1 t341 bt344.2 bt346.1 true)) else (laws_FnSeamsHidden.j0 k t328 t329 t330 t338 bt339.1 t341 bt344.2 bt346.1 true)) else (laws_FnSeamsHidden.j0 k t328 t329 t330 t338 bt339.1 t341 bt344.2 bt346.1 true)) else (laws_FnSeamsHidden.j0 k t328 t329 t330 t338 bt339.1 t341 bt344.2 bt346.1 true))) else (laws_FnSeamsHidden.j0 k t328 t329 t330 t338 bt339.1 t341 bt344.2 bt346.1 true)))))) = some r := H
    have A7 := Aside0.mk A70
    clear A70
    replace H := Option.bind_eq_some_iff.mp H
    obtain ⟨⟨t339, t340⟩, A80, H⟩ := H
    replace H : ((spec_DrawUpperAt.f k l0).bind fun t341 => ((impl_UpperAt.f k t341).bind fun bt344 => ((spec_UpperAt.f k t341).bind fun bt346 => (if t330 = t334 then ((laws_f6ints.f k t329 t333).bind fun t348 => (if t348 = true then (if t338 = t340 then (if t337 = t339 then (if bt344.2 = bt346.2 then (if bt344.1.toList = bt346.1.toList then ((impl_ValidOrder.f k t341).bind fun t349 => ((spec_ValidOrder.f k t341).bind fun t350 => (laws_FnSeamsHidden.j0 k t328 t329 t330 t338 t339 t341 bt344.2 bt346.1 (t349 != t350)))) else (laws_FnSeamsHidden.j0 k t328 t329 t330 t338 t339 t341 bt344.2 bt346.1 true)) else (laws_FnSeamsHidden.j0 k t328 t329 t330 t338 t339 t341 bt344.2 bt346.1 true)) else (laws_FnSeamsHidden.j0 k t328 t329 t330 t338 t339 t341 bt344.2 bt346.1 true)) else (laws_FnSeamsHidden.j0 k t328 t329 t330 t338 t339 t341 bt344.2 bt346.1 true)) else (laws_FnSeamsHidden.j0 k t328 t329 t330 t338 t339 t341 bt344.2 bt346.1 true))) else (laws_FnSeamsHidden.j0 k t328 t329 t330 t338 t339 t341 bt344.2 bt346.1 true))))) = some r := H
    have A8 := Aside0.mk A80
    clear A80
    replace H := Option.bind_eq_some_iff.mp H
    obtain ⟨t341, A90, H⟩ := H
    replace H : ((impl_UpperAt.f k t341).bind fun bt344 => ((spec_UpperAt.f k t341).bind fun bt346 => (if t330 = t334 then ((laws_f6ints.f k t329 t333).bind fun t348 => (if t348 = true then (if t338 = t340 then (if t337 = t339 then (if bt344.2 = bt346.2 then (if bt344.1.toList = bt346.1.toList then ((impl_ValidOrder.f k t341).bind fun t349 => ((spec_ValidOrder.f k t341).bind fun t350 => (laws_FnSeamsHidden.j0 k t328 t329 t330 t338 t339 t341 bt344.2 bt346.1 (t349 != t350)))) else (laws_FnSeamsHidden.j0 k t328 t329 t330 t338 t339 t341 bt344.2 bt346.1 true)) else (laws_FnSeamsHidden.j0 k t328 t329 t330 t338 t339 t341 bt344.2 bt346.1 true)) else (laws_FnSeamsHidden.j0 k t328 t329 t330 t338 t339 t341 bt344.2 bt346.1 true)) else (laws_FnSeamsHidden.j0 k t328 t329 t330 t338 t339 t341 bt344.2 bt346.1 true)) else (laws_FnSeamsHidden.j0 k t328 t329 t330 t338 t339 t341 bt344.2 bt346.1 true))) else (laws_FnSeamsHidden.j0 k t328 t329 t330 t338 t339 t341 bt344.2 bt346.1 true)))) = some r := H
    have A9 := Aside0.mk A90
    clear A90
    replace H := Option.bind_eq_some_iff.mp H
    obtain ⟨⟨t344, t345⟩, A100, H⟩ := H
    replace H : ((spec_UpperAt.f k t341).bind fun bt346 => (if t330 = t334 then ((laws_f6ints.f k t329 t333).bind fun t348 => (if t348 = true then (if t338 = t340 then (if t337 = t339 then (if t345 = bt346.2 then (if t344.toList = bt346.1.toList then ((impl_ValidOrder.f k t341).bind fun t349 => ((spec_ValidOrder.f k t341).bind fun t350 => (laws_FnSeamsHidden.j0 k t328 t329 t330 t338 t339 t341 t345 bt346.1 (t349 != t350)))) else (laws_FnSeamsHidden.j0 k t328 t329 t330 t338 t339 t341 t345 bt346.1 true)) else (laws_FnSeamsHidden.j0 k t328 t329 t330 t338 t339 t341 t345 bt346.1 true)) else (laws_FnSeamsHidden.j0 k t328 t329 t330 t338 t339 t341 t345 bt346.1 true)) else (laws_FnSeamsHidden.j0 k t328 t329 t330 t338 t339 t341 t345 bt346.1 true)) else (laws_FnSeamsHidden.j0 k t328 t329 t330 t338 t339 t341 t345 bt346.1 true))) else (laws_FnSeamsHidden.j0 k t328 t329 t330 t338 t339 t341 t345 bt346.1 true))) = some r := H
    have A10 := Aside0.mk A100
    clear A100
    replace H := Option.bind_eq_some_iff.mp H
    obtain ⟨⟨t346, t347⟩, A110, H⟩ := H
    replace H : (if t330 = t334 then ((laws_f6ints.f k t329 t333).bind fun t348 => (if t348 = true then (if t338 = t340 then (if t337 = t339 then (if t345 = t347 then (if t344.toList = t346.toList then ((impl_ValidOrder.f k t341).bind fun t349 => ((spec_ValidOrder.f k t341).bind fun t350 => (laws_FnSeamsHidden.j0 k t328 t329 t330 t338 t339 t341 t345 t346 (t349 != t350)))) else (laws_FnSeamsHidden.j0 k t328 t329 t330 t338 t339 t341 t345 t346 true)) else (laws_FnSeamsHidden.j0 k t328 t329 t330 t338 t339 t341 t345 t346 true)) else (laws_FnSeamsHidden.j0 k t328 t329 t330 t338 t339 t341 t345 t346 true)) else (laws_FnSeamsHidden.j0 k t328 t329 t330 t338 t339 t341 t345 t346 true)) else (laws_FnSeamsHidden.j0 k t328 t329 t330 t338 t339 t341 t345 t346 true))) else (laws_FnSeamsHidden.j0 k t328 t329 t330 t338 t339 t341 t345 t346 true)) = some r := H
    have A11 := Aside0.mk A110
    clear A110
    have HC12 := Aside0.mk H
    clear H
    go_enter Tryd.func5, Tryd.ntmps5
    go_upto_region 11 with (first | ((with_reducible refine gate_callee (f := 13) rfl ?_); refine goesL_ (some 22) rfl rfl Tryd.func13 (by kernel_rfl) rfl #[.slice A0 l0.length c0] rfl (by (try simp only [List.map_toArray, List.map_cons, List.map_nil]); first | done | rfl | (simp only [List.length_drop, List.length_take]; rfl)) ?_; (with_reducible refine (laws_f6big.calls _ _ l0 false _ ?side1 ?side2 A2.out).mono ?_); (case side1 => repeat (first | exact HR0.out | (with_reducible refine Kd.C_alloc ?_ _) | (with_reducible refine Kd.C_drewN ?_ _) | (with_reducible refine Kd.C_drew ?_))); (case side2 => exact HC0.out); rintro e w' ⟨rfl, ⟨nd, rfl⟩⟩; refine ⟨_, rfl, ?_⟩) | ((with_reducible refine gate_callee (f := 14) rfl ?_); refine goesL_ (some 24) rfl rfl Tryd.func14 (by kernel_rfl) rfl #[.slice A0 l0.length c0] rfl (by (try simp only [List.map_toArray, List.map_cons, List.map_nil]); first | done | rfl | (simp only [List.length_drop, List.length_take]; rfl)) ?_; (with_reducible refine (spec_DrawOrderFor.calls k _ _ l0 t328 _ ?side1 ?side2 A4.out).mono ?_); (case side1 => repeat (first | exact HR0.out | (with_reducible refine Kd.C_alloc ?_ _) | (with_reducible refine Kd.C_drewN ?_ _) | (with_reducible refine Kd.C_drew ?_))); (case side2 => exact HC0.out); rintro e w13 ⟨rfl, hb⟩; refine ⟨_, rfl, ?_⟩; have n0_ := Aside0.mk (below_step (by repeat (first | (with_reducible first | exact HB.out | apply below_alloc | apply pw_below_drewN | apply below_drew1) | exact HB.out)) hb); clear HB; have HB := n0_; clear n0_; (try clear hb); (try clear hb2); (try clear hk); (try clear hi)) | ((with_reducible refine gate_callee (f := 9) rfl ?_); refine goesL_ (some 27) rfl rfl Tryd.func9 (by kernel_rfl) rfl #[.string t328] rfl (by (try simp only [List.map_toArray, List.map_cons, List.map_nil]); first | done | rfl | (simp only [List.length_drop, List.length_take]; rfl)) ?_; (with_reducible refine (impl_OrderFor.calls k t328 t329 t330 _ A5.out).mono ?_); rintro e w14 ⟨v331, rfl, ho0, hb⟩; refine ⟨_, rfl, ?_⟩; have n0_ := Aside0.mk (Kd.R_lower ho0 (below_size (by repeat (first | (with_reducible first | exact HB.out | apply below_alloc | apply pw_below_drewN | apply below_drew1) | exact HB.out)))); have n1_ := Aside0.mk (below_step (by repeat (first | (with_reducible first | exact HB.out | apply below_alloc | apply pw_below_drewN | apply below_drew1) | exact HB.out)) hb); clear HB; have HO332 := n0_; have HB := n1_; clear n0_ n1_; (try clear hb); (try clear hb2); (try clear hk); (try clear hi); (try clear ho0)) | ((with_reducible refine gate_callee (f := 8) rfl ?_); refine goesL_ (some 32) rfl rfl Tryd.func8 (by kernel_rfl) rfl #[.string t328] rfl (by (try simp only [List.map_toArray, List.map_cons, List.map_nil]); first | done | rfl | (simp only [List.length_drop, List.length_take]; rfl)) ?_; (with_reducible refine (spec_OrderFor.calls k t328 t333 t334 _ A6.out).mono ?_); rintro e w15 ⟨v335, rfl, ho0, hb⟩; refine ⟨_, rfl, ?_⟩; have n0_ := Aside0.mk (Kd.R_elder' (by (with_reducible repeat (first | apply Kd.R_alloc | apply Kd.R_drewN | apply Kd.R_drew)); exact HO332.out) (Kd.R_base ho0) hb); have n1_ := Aside0.mk (Kd.R_lower (Kd.R_new' ho0 (Kd.R_lt (by (with_reducible repeat (first | apply Kd.R_alloc | apply Kd.R_drewN | apply Kd.R_drew)); exact HO332.out))) (below_size (by repeat (first | (with_reducible first | exact HB.out | apply below_alloc | apply pw_below_drewN | apply below_drew1) | exact HB.out)))); have n2_ := Aside0.mk (below_step (by repeat (first | (with_reducible first | exact HB.out | apply below_alloc | apply pw_below_drewN | apply below_drew1) | exact HB.out)) hb); clear HO332; clear HB; have HO332 := n0_; have HO336 := n1_; have HB := n2_; clear n0_ n1_ n2_; (try clear hb); (try clear hb2); (try clear hk); (try clear hi); (try clear ho0)) | ((with_reducible refine gate_callee (f := 7) rfl ?_); refine goesL_ (some 37) rfl rfl Tryd.func7 (by kernel_rfl) rfl #[.string t328] rfl (by (try simp only [List.map_toArray, List.map_cons, List.map_nil]); first | done | rfl | (simp only [List.length_drop, List.length_take]; rfl)) ?_; (with_reducible refine (impl_CountOrders.calls k t328 t337 t338 _ A7.out).mono ?_); rintro e w16 ⟨rfl, hb⟩; refine ⟨_, rfl, ?_⟩; have n0_ := Aside0.mk (Kd.R_below (by (with_reducible repeat (first | apply Kd.R_alloc | apply Kd.R_drewN | apply Kd.R_drew)); exact HO332.out) hb); have n1_ := Aside0.mk (Kd.R_below (by (with_reducible repeat (first | apply Kd.R_alloc | apply Kd.R_drewN | apply Kd.R_drew)); exact HO336.out) hb); have n2_ := Aside0.mk (below_step (by repeat (first | (with_reducible first | exact HB.out | apply below_alloc | apply pw_below_drewN | apply below_drew1) | exact HB.out)) hb); clear HO332; clear HO336; clear HB; have HO332 := n0_; have HO336 := n1_; have HB := n2_; clear n0_ n1_ n2_; (try clear hb); (try clear hb2); (try clear hk); (try clear hi)) | ((with_reducible refine gate_callee (f := 6) rfl ?_); refine goesL_ (some 42) rfl rfl Tryd.func6 (by kernel_rfl) rfl #[.string t328] rfl (by (try simp only [List.map_toArray, List.map_cons, List.map_nil]); first | done | rfl | (simp only [List.length_drop, List.length_take]; rfl)) ?_; (with_reducible refine (spec_CountOrders.calls k t328 t339 t340 _ A8.out).mono ?_); rintro e w17 ⟨rfl, hb⟩; refine ⟨_, rfl, ?_⟩; have n0_ := Aside0.mk (Kd.R_below (by (with_reducible repeat (first | apply Kd.R_alloc | apply Kd.R_drewN | apply Kd.R_drew)); exact HO332.out) hb); have n1_ := Aside0.mk (Kd.R_below (by (with_reducible repeat (first | apply Kd.R_alloc | apply Kd.R_drewN | apply Kd.R_drew)); exact HO336.out) hb); have n2_ := Aside0.mk (below_step (by repeat (first | (with_reducible first | exact HB.out | apply below_alloc | apply pw_below_drewN | apply below_drew1) | exact HB.out)) hb); clear HO332; clear HO336; clear HB; have HO332 := n0_; have HO336 := n1_; have HB := n2_; clear n0_ n1_ n2_; (try clear hb); (try clear hb2); (try clear hk); (try clear hi)) | ((with_reducible refine gate_callee (f := 15) rfl ?_); refine goesL_ (some 46) rfl rfl Tryd.func15 (by kernel_rfl) rfl #[.slice A0 l0.length c0] rfl (by (try simp only [List.map_toArray, List.map_cons, List.map_nil]); first | done | rfl | (simp only [List.length_drop, List.length_take]; rfl)) ?_; (with_reducible refine (spec_DrawUpperAt.calls k _ _ l0 t341 _ ?side1 ?side2 A9.out).mono ?_); (case side1 => repeat (first | exact (Kd.C_below HR0.out HB.out) | (with_reducible refine Kd.C_alloc ?_ _) | (with_reducible refine Kd.C_drewN ?_ _) | (with_reducible refine Kd.C_drew ?_))); (case side2 => exact HC0.out); rintro e w18 ⟨v342, rfl, ho0, hb⟩; refine ⟨_, rfl, ?_⟩; have n0_ := Aside0.mk (Kd.R_elder' (by (with_reducible repeat (first | apply Kd.R_alloc | apply Kd.R_drewN | apply Kd.R_drew)); exact HO332.out) (Kd.R_base ho0) hb); have n1_ := Aside0.mk (Kd.R_elder' (by (with_reducible repeat (first | apply Kd.R_alloc | apply Kd.R_drewN | apply Kd.R_drew)); exact HO336.out) (Kd.R_base ho0) hb); have n2_ := Aside0.mk (Kd.R_lower (Kd.R_new' (Kd.R_new' ho0 (Kd.R_lt (by (with_reducible repeat (first | apply Kd.R_alloc | apply Kd.R_drewN | apply Kd.R_drew)); exact HO332.out))) (Kd.R_lt (by (with_reducible repeat (first | apply Kd.R_alloc | apply Kd.R_drewN | apply Kd.R_drew)); exact HO336.out))) (below_size (by repeat (first | (with_reducible first | exact HB.out | apply below_alloc | apply pw_below_drewN | apply below_drew1) | exact HB.out)))); have n3_ := Aside0.mk (below_step (by repeat (first | (with_reducible first | exact HB.out | apply below_alloc | apply pw_below_drewN | apply below_drew1) | exact HB.out)) hb); clear HO332; clear HO336; clear HB; have HO332 := n0_; have HO336 := n1_; have HO343 := n2_; have HB := n3_; clear n0_ n1_ n2_ n3_; (try clear hb); (try clear hb2); (try clear hk); (try clear hi); (try clear ho0); obtain ⟨Ao19, co19, eo19⟩ := Kd.R_slice HO343.out; subst eo19) | ((with_reducible refine gate_callee (f := 16) rfl ?_); refine goesL_ (some 49) rfl rfl Tryd.func16 (by kernel_rfl) rfl #[.slice Ao19 t341.length co19] rfl (by (try simp only [List.map_toArray, List.map_cons, List.map_nil]); first | done | rfl | (simp only [List.length_drop, List.length_take]; rfl)) ?_; (with_reducible refine (impl_UpperAt.calls k _ _ t341 t344 t345 _ ?side1 ?side2 A10.out).mono ?_); (case side1 => repeat (first | exact (Kd.R_reads' HO343.out).2.2 | (with_reducible refine Kd.C_alloc ?_ _) | (with_reducible refine Kd.C_drewN ?_ _) | (with_reducible refine Kd.C_drew ?_))); (case side2 => exact (Kd.R_reads' HO343.out).2.1); rintro e w20 ⟨rfl, hb⟩; refine ⟨_, rfl, ?_⟩; have n0_ := Aside0.mk (Kd.R_below (by (with_reducible repeat (first | apply Kd.R_alloc | apply Kd.R_drewN | apply Kd.R_drew)); exact HO332.out) hb); have n1_ := Aside0.mk (Kd.R_below (by (with_reducible repeat (first | apply Kd.R_alloc | apply Kd.R_drewN | apply Kd.R_drew)); exact HO336.out) hb); have n2_ := Aside0.mk (Kd.R_below (by (with_reducible repeat (first | apply Kd.R_alloc | apply Kd.R_drewN | apply Kd.R_drew)); exact HO343.out) hb); have n3_ := Aside0.mk (below_step (by repeat (first | (with_reducible first | exact HB.out | apply below_alloc | apply pw_below_drewN | apply below_drew1) | exact HB.out)) hb); clear HO332; clear HO336; clear HO343; clear HB; have HO332 := n0_; have HO336 := n1_; have HO343 := n2_; have HB := n3_; clear n0_ n1_ n2_ n3_; (try clear hb); (try clear hb2); (try clear hk); (try clear hi)) | ((with_reducible refine gate_callee (f := 17) rfl ?_); refine goesL_ (some 54) rfl rfl Tryd.func17 (by kernel_rfl) rfl #[.slice Ao19 t341.length co19] rfl (by (try simp only [List.map_toArray, List.map_cons, List.map_nil]); first | done | rfl | (simp only [List.length_drop, List.length_take]; rfl)) ?_; (with_reducible refine (spec_UpperAt.calls k _ _ t341 t346 t347 _ ?side1 ?side2 A11.out).mono ?_); (case side1 => repeat (first | exact (Kd.R_reads' HO343.out).2.2 | (with_reducible refine Kd.C_alloc ?_ _) | (with_reducible refine Kd.C_drewN ?_ _) | (with_reducible refine Kd.C_drew ?_))); (case side2 => exact (Kd.R_reads' HO343.out).2.1); rintro e w21 ⟨rfl, hb⟩; refine ⟨_, rfl, ?_⟩; have n0_ := Aside0.mk (Kd.R_below (by (with_reducible repeat (first | apply Kd.R_alloc | apply Kd.R_drewN | apply Kd.R_drew)); exact HO332.out) hb); have n1_ := Aside0.mk (Kd.R_below (by (with_reducible repeat (first | apply Kd.R_alloc | apply Kd.R_drewN | apply Kd.R_drew)); exact HO336.out) hb); have n2_ := Aside0.mk (Kd.R_below (by (with_reducible repeat (first | apply Kd.R_alloc | apply Kd.R_drewN | apply Kd.R_drew)); exact HO343.out) hb); have n3_ := Aside0.mk (below_step (by repeat (first | (with_reducible first | exact HB.out | apply below_alloc | apply pw_below_drewN | apply below_drew1) | exact HB.out)) hb); clear HO332; clear HO336; clear HO343; clear HB; have HO332 := n0_; have HO336 := n1_; have HO343 := n2_; have HB := n3_; clear n0_ n1_ n2_ n3_; (try clear hb); (try clear hb2); (try clear hk); (try clear hi)))
    (try simp only [Act.put, List.setIfInBounds_toArray, List.set_cons_zero, List.set_cons_succ])
    go_cut [92] (fun v92 wc => ∃ (kq : Nat) (x92_11 : Bool), v92 = .bool x92_11 ∧ Aside0 (laws_FnSeamsHidden.j0 kq t328 t329 t330 t338 t339 t341 t345 t346 x92_11 = some r) ∧ Aside0 (kq ≤ k) ∧ Aside0 (Kd.R (Kd.int .i64) 2 wc w.heap.size (fun k_ => some k_ ≠ ((.slice Ao19 t341.length co19) : Value).ownBlock) v331 t329) ∧ Aside0 (Kd.R (Kd.int .i64) 2 wc w.heap.size (fun k_ => some k_ ≠ (v331 : Value).ownBlock) (.slice Ao19 t341.length co19) t341) ∧ Aside0 (Below w.heap.size w wc))
    case first =>
      have H := HC12.out
      clear HC12
      by_cases c22 : t330 = t334
      · rw [if_pos c22] at H
        have c22b0 : (t330 == t334) = true := beq_iff_eq.mpr c22
        have c22b1 : (t330 != t334) = false := bne_eq_false_iff_eq.mpr c22
        clear c22
        (first | rw [c22b0] | (simp only [i64_w, i32_w]; rw [c22b0]) | skip)
        replace H := Option.bind_eq_some_iff.mp H
        obtain ⟨t348, A230, H⟩ := H
        replace H : (if t348 = true then (if t338 = t340 then (if t337 = t339 then (if t345 = t347 then (if t344.toList = t346.toList then ((impl_ValidOrder.f k t341).bind fun t349 => ((spec_ValidOrder.f k t341).bind fun t350 => (laws_FnSeamsHidden.j0 k t328 t329 t330 t338 t339 t341 t345 t346 (t349 != t350)))) else (laws_FnSeamsHidden.j0 k t328 t329 t330 t338 t339 t341 t345 t346 true)) else (laws_FnSeamsHidden.j0 k t328 t329 t330 t338 t339 t341 t345 t346 true)) else (laws_FnSeamsHidden.j0 k t328 t329 t330 t338 t339 t341 t345 t346 true)) else (laws_FnSeamsHidden.j0 k t328 t329 t330 t338 t339 t341 t345 t346 true)) else (laws_FnSeamsHidden.j0 k t328 t329 t330 t338 t339 t341 t345 t346 true)) = some r := H
        have A23 := Aside0.mk A230
        clear A230
        by_cases c24 : t348 = true
        · subst c24
          have H1 : (if t338 = t340 then (if t337 = t339 then (if t345 = t347 then (if t344.toList = t346.toList then ((impl_ValidOrder.f k t341).bind fun t349 => ((spec_ValidOrder.f k t341).bind fun t350 => (laws_FnSeamsHidden.j0 k t328 t329 t330 t338 t339 t341 t345 t346 (t349 != t350)))) else (laws_FnSeamsHidden.j0 k t328 t329 t330 t338 t339 t341 t345 t346 true)) else (laws_FnSeamsHidden.j0 k t328 t329 t330 t338 t339 t341 t345 t346 true)) else (laws_FnSeamsHidden.j0 k t328 t329 t330 t338 t339 t341 t345 t346 true)) else (laws_FnSeamsHidden.j0 k t328 t329 t330 t338 t339 t341 t345 t346 true)) = some r := by rw [if_pos rfl] at H; exact H
          clear H
          have H := H1
          clear H1
          by_cases c25 : t338 = t340
          · rw [if_pos c25] at H
            have c25b0 : (t338 == t340) = true := beq_iff_eq.mpr c25
            have c25b1 : (t338 != t340) = false := bne_eq_false_iff_eq.mpr c25
            clear c25
            by_cases c26 : t337 = t339
            · rw [if_pos c26] at H
              have c26b0 : (t337 == t339) = true := beq_iff_eq.mpr c26
              have c26b1 : (t337 != t339) = false := bne_eq_false_iff_eq.mpr c26
              clear c26
              by_cases c27 : t345 = t347
              · rw [if_pos c27] at H
                have c27b0 : (t345 == t347) = true := beq_iff_eq.mpr c27
                have c27b1 : (t345 != t347) = false := bne_eq_false_iff_eq.mpr c27
                clear c27
                by_cases c28 : t344.toList = t346.toList
                · rw [if_pos c28] at H
                  have c28b0 : (t344.toList == t346.toList) = true := beq_iff_eq.mpr c28
                  have c28b1 : (t344.toList != t346.toList) = false := bne_eq_false_iff_eq.mpr c28
                  clear c28
                  replace H := Option.bind_eq_some_iff.mp H
                  obtain ⟨t349, A290, H⟩ := H
                  replace H : ((spec_ValidOrder.f k t341).bind fun t350 => (laws_FnSeamsHidden.j0 k t328 t329 t330 t338 t339 t341 t345 t346 (t349 != t350))) = some r := H
                  have A29 := Aside0.mk A290
                  clear A290
                  replace H := Option.bind_eq_some_iff.mp H
                  obtain ⟨t350, A300, H⟩ := H
                  replace H : (laws_FnSeamsHidden.j0 k t328 t329 t330 t338 t339 t341 t345 t346 (t349 != t350)) = some r := H
                  have A30 := Aside0.mk A300
                  clear A300
                  have H' := Aside0.mk H
                  clear H
                  obtain ⟨Ao31, co31, eo31⟩ := Kd.R_slice HO332.out
                  subst eo31
                  obtain ⟨Ao32, co32, eo32⟩ := Kd.R_slice HO336.out
                  subst eo32
                  go_wp2_with (first | (go_at_call 18; (with_reducible refine (laws_f6ints.calls k _ _ t329 _ _ t333 true _ ?side1 ?side2 ?side3 ?side4 A23.out).mono ?_); (case side1 => repeat (first | exact (Kd.R_reads' HO332.out).2.2 | (with_reducible refine Kd.C_alloc ?_ _) | (with_reducible refine Kd.C_drewN ?_ _) | (with_reducible refine Kd.C_drew ?_))); (case side2 => exact (Kd.R_reads' HO332.out).2.1); (case side3 => repeat (first | exact (Kd.R_reads' HO336.out).2.2 | (with_reducible refine Kd.C_alloc ?_ _) | (with_reducible refine Kd.C_drewN ?_ _) | (with_reducible refine Kd.C_drew ?_))); (case side4 => exact (Kd.R_reads' HO336.out).2.1); rintro e w' ⟨rfl, ⟨nd, rfl⟩⟩) | (go_at_call 19; (with_reducible refine (impl_ValidOrder.calls k _ _ t341 t349 _ ?side1 ?side2 A29.out).mono ?_); (case side1 => repeat (first | exact (Kd.R_reads' HO343.out).2.2 | (with_reducible refine Kd.C_alloc ?_ _) | (with_reducible refine Kd.C_drewN ?_ _) | (with_reducible refine Kd.C_drew ?_))); (case side2 => exact (Kd.R_reads' HO343.out).2.1); rintro e w33 ⟨rfl, hb⟩; have n0_ := Aside0.mk (Kd.R_below (by (with_reducible repeat (first | apply Kd.R_alloc | apply Kd.R_drewN | apply Kd.R_drew)); exact HO332.out) hb); have n1_ := Aside0.mk (Kd.R_below (by (with_reducible repeat (first | apply Kd.R_alloc | apply Kd.R_drewN | apply Kd.R_drew)); exact HO336.out) hb); have n2_ := Aside0.mk (Kd.R_below (by (with_reducible repeat (first | apply Kd.R_alloc | apply Kd.R_drewN | apply Kd.R_drew)); exact HO343.out) hb); have n3_ := Aside0.mk (below_step (by repeat (first | (with_reducible first | exact HB.out | apply below_alloc | apply pw_below_drewN | apply below_drew1) | exact HB.out)) hb); clear HO332; clear HO336; clear HO343; clear HB; have HO332 := n0_; have HO336 := n1_; have HO343 := n2_; have HB := n3_; clear n0_ n1_ n2_ n3_; (try clear hb); (try clear hb2); (try clear hk); (try clear hi)) | (go_at_call 20; (with_reducible refine (spec_ValidOrder.calls k _ _ t341 t350 _ ?side1 ?side2 A30.out).mono ?_); (case side1 => repeat (first | exact (Kd.R_reads' HO343.out).2.2 | (with_reducible refine Kd.C_alloc ?_ _) | (with_reducible refine Kd.C_drewN ?_ _) | (with_reducible refine Kd.C_drew ?_))); (case side2 => exact (Kd.R_reads' HO343.out).2.1); rintro e w' ⟨rfl, ⟨nd, rfl⟩⟩))
                  go_meet
                  case rel => exact ⟨_, ((t349 != t350)), (by first | rfl | (simp; done) | (simp [*]; done)), H', ⟨by first | omega | exact Nat.le_refl _⟩, ⟨by (with_reducible repeat (first | apply Kd.R_alloc | apply Kd.R_drewN | apply Kd.R_drew)); exact Kd.R_mono HO332.out (fun _ hk => hk.2)⟩, ⟨by (with_reducible repeat (first | apply Kd.R_alloc | apply Kd.R_drewN | apply Kd.R_drew)); exact Kd.R_mono HO343.out (fun _ hk => hk.1.2)⟩, ⟨by repeat (first | (with_reducible first | exact HB.out | apply below_alloc | apply pw_below_drewN | apply below_drew1) | exact HB.out)⟩⟩
                · rw [if_neg c28] at H
                  have c28b0 : (t344.toList == t346.toList) = false := beq_eq_false_iff_ne.mpr c28
                  have c28b1 : (t344.toList != t346.toList) = true := bne_iff_ne.mpr c28
                  have H' := Aside0.mk H
                  clear H
                  obtain ⟨Ao34, co34, eo34⟩ := Kd.R_slice HO332.out
                  subst eo34
                  obtain ⟨Ao35, co35, eo35⟩ := Kd.R_slice HO336.out
                  subst eo35
                  go_wp2_with (first | (go_at_call 18; (with_reducible refine (laws_f6ints.calls k _ _ t329 _ _ t333 true _ ?side1 ?side2 ?side3 ?side4 A23.out).mono ?_); (case side1 => repeat (first | exact (Kd.R_reads' HO332.out).2.2 | (with_reducible refine Kd.C_alloc ?_ _) | (with_reducible refine Kd.C_drewN ?_ _) | (with_reducible refine Kd.C_drew ?_))); (case side2 => exact (Kd.R_reads' HO332.out).2.1); (case side3 => repeat (first | exact (Kd.R_reads' HO336.out).2.2 | (with_reducible refine Kd.C_alloc ?_ _) | (with_reducible refine Kd.C_drewN ?_ _) | (with_reducible refine Kd.C_drew ?_))); (case side4 => exact (Kd.R_reads' HO336.out).2.1); rintro e w' ⟨rfl, ⟨nd, rfl⟩⟩))
                  go_meet
                  case rel => exact ⟨_, (true), (by first | rfl | (simp; done) | (simp [*]; done)), H', ⟨by first | omega | exact Nat.le_refl _⟩, ⟨by (with_reducible repeat (first | apply Kd.R_alloc | apply Kd.R_drewN | apply Kd.R_drew)); exact Kd.R_mono HO332.out (fun _ hk => hk.2)⟩, ⟨by (with_reducible repeat (first | apply Kd.R_alloc | apply Kd.R_drewN | apply Kd.R_drew)); exact Kd.R_mono HO343.out (fun _ hk => hk.1.2)⟩, ⟨by repeat (first | (with_reducible first | exact HB.out | apply below_alloc | apply pw_below_drewN | apply below_drew1) | exact HB.out)⟩⟩
              · rw [if_neg c27] at H
                have c27b0 : (t345 == t347) = false := beq_eq_false_iff_ne.mpr c27
                have c27b1 : (t345 != t347) = true := bne_iff_ne.mpr c27
                have H' := Aside0.mk H
                clear H
                obtain ⟨Ao36, co36, eo36⟩ := Kd.R_slice HO332.out
                subst eo36
                obtain ⟨Ao37, co37, eo37⟩ := Kd.R_slice HO336.out
                subst eo37
                go_wp2_with (first | (go_at_call 18; (with_reducible refine (laws_f6ints.calls k _ _ t329 _ _ t333 true _ ?side1 ?side2 ?side3 ?side4 A23.out).mono ?_); (case side1 => repeat (first | exact (Kd.R_reads' HO332.out).2.2 | (with_reducible refine Kd.C_alloc ?_ _) | (with_reducible refine Kd.C_drewN ?_ _) | (with_reducible refine Kd.C_drew ?_))); (case side2 => exact (Kd.R_reads' HO332.out).2.1); (case side3 => repeat (first | exact (Kd.R_reads' HO336.out).2.2 | (with_reducible refine Kd.C_alloc ?_ _) | (with_reducible refine Kd.C_drewN ?_ _) | (with_reducible refine Kd.C_drew ?_))); (case side4 => exact (Kd.R_reads' HO336.out).2.1); rintro e w' ⟨rfl, ⟨nd, rfl⟩⟩))
                go_meet
                case rel => exact ⟨_, (true), (by first | rfl | (simp; done) | (simp [*]; done)), H', ⟨by first | omega | exact Nat.le_refl _⟩, ⟨by (with_reducible repeat (first | apply Kd.R_alloc | apply Kd.R_drewN | apply Kd.R_drew)); exact Kd.R_mono HO332.out (fun _ hk => hk.2)⟩, ⟨by (with_reducible repeat (first | apply Kd.R_alloc | apply Kd.R_drewN | apply Kd.R_drew)); exact Kd.R_mono HO343.out (fun _ hk => hk.1.2)⟩, ⟨by repeat (first | (with_reducible first | exact HB.out | apply below_alloc | apply pw_below_drewN | apply below_drew1) | exact HB.out)⟩⟩
            · rw [if_neg c26] at H
              have c26b0 : (t337 == t339) = false := beq_eq_false_iff_ne.mpr c26
              have c26b1 : (t337 != t339) = true := bne_iff_ne.mpr c26
              have H' := Aside0.mk H
              clear H
              obtain ⟨Ao38, co38, eo38⟩ := Kd.R_slice HO332.out
              subst eo38
              obtain ⟨Ao39, co39, eo39⟩ := Kd.R_slice HO336.out
              subst eo39
              go_wp2_with (first | (go_at_call 18; (with_reducible refine (laws_f6ints.calls k _ _ t329 _ _ t333 true _ ?side1 ?side2 ?side3 ?side4 A23.out).mono ?_); (case side1 => repeat (first | exact (Kd.R_reads' HO332.out).2.2 | (with_reducible refine Kd.C_alloc ?_ _) | (with_reducible refine Kd.C_drewN ?_ _) | (with_reducible refine Kd.C_drew ?_))); (case side2 => exact (Kd.R_reads' HO332.out).2.1); (case side3 => repeat (first | exact (Kd.R_reads' HO336.out).2.2 | (with_reducible refine Kd.C_alloc ?_ _) | (with_reducible refine Kd.C_drewN ?_ _) | (with_reducible refine Kd.C_drew ?_))); (case side4 => exact (Kd.R_reads' HO336.out).2.1); rintro e w' ⟨rfl, ⟨nd, rfl⟩⟩))
              go_meet
              case rel => exact ⟨_, (true), (by first | rfl | (simp; done) | (simp [*]; done)), H', ⟨by first | omega | exact Nat.le_refl _⟩, ⟨by (with_reducible repeat (first | apply Kd.R_alloc | apply Kd.R_drewN | apply Kd.R_drew)); exact Kd.R_mono HO332.out (fun _ hk => hk.2)⟩, ⟨by (with_reducible repeat (first | apply Kd.R_alloc | apply Kd.R_drewN | apply Kd.R_drew)); exact Kd.R_mono HO343.out (fun _ hk => hk.1.2)⟩, ⟨by repeat (first | (with_reducible first | exact HB.out | apply below_alloc | apply pw_below_drewN | apply below_drew1) | exact HB.out)⟩⟩
          · rw [if_neg c25] at H
            have c25b0 : (t338 == t340) = false := beq_eq_false_iff_ne.mpr c25
            have c25b1 : (t338 != t340) = true := bne_iff_ne.mpr c25
            have H' := Aside0.mk H
            clear H
            obtain ⟨Ao40, co40, eo40⟩ := Kd.R_slice HO332.out
            subst eo40
            obtain ⟨Ao41, co41, eo41⟩ := Kd.R_slice HO336.out
            subst eo41
            go_wp2_with (first | (go_at_call 18; (with_reducible refine (laws_f6ints.calls k _ _ t329 _ _ t333 true _ ?side1 ?side2 ?side3 ?side4 A23.out).mono ?_); (case side1 => repeat (first | exact (Kd.R_reads' HO332.out).2.2 | (with_reducible refine Kd.C_alloc ?_ _) | (with_reducible refine Kd.C_drewN ?_ _) | (with_reducible refine Kd.C_drew ?_))); (case side2 => exact (Kd.R_reads' HO332.out).2.1); (case side3 => repeat (first | exact (Kd.R_reads' HO336.out).2.2 | (with_reducible refine Kd.C_alloc ?_ _) | (with_reducible refine Kd.C_drewN ?_ _) | (with_reducible refine Kd.C_drew ?_))); (case side4 => exact (Kd.R_reads' HO336.out).2.1); rintro e w' ⟨rfl, ⟨nd, rfl⟩⟩))
            go_meet
            case rel => exact ⟨_, (true), (by first | rfl | (simp; done) | (simp [*]; done)), H', ⟨by first | omega | exact Nat.le_refl _⟩, ⟨by (with_reducible repeat (first | apply Kd.R_alloc | apply Kd.R_drewN | apply Kd.R_drew)); exact Kd.R_mono HO332.out (fun _ hk => hk.2)⟩, ⟨by (with_reducible repeat (first | apply Kd.R_alloc | apply Kd.R_drewN | apply Kd.R_drew)); exact Kd.R_mono HO343.out (fun _ hk => hk.1.2)⟩, ⟨by repeat (first | (with_reducible first | exact HB.out | apply below_alloc | apply pw_below_drewN | apply below_drew1) | exact HB.out)⟩⟩
        · replace c24 := Bool.eq_false_iff.mpr c24
          subst c24
          have H1 : (laws_FnSeamsHidden.j0 k t328 t329 t330 t338 t339 t341 t345 t346 true) = some r := by rw [if_neg (show ¬ (false = true) by decide)] at H; exact H
          clear H
          have H := H1
          clear H1
          have H' := Aside0.mk H
          clear H
          obtain ⟨Ao42, co42, eo42⟩ := Kd.R_slice HO332.out
          subst eo42
          obtain ⟨Ao43, co43, eo43⟩ := Kd.R_slice HO336.out
          subst eo43
          go_wp2_with (first | (go_at_call 18; (with_reducible refine (laws_f6ints.calls k _ _ t329 _ _ t333 false _ ?side1 ?side2 ?side3 ?side4 A23.out).mono ?_); (case side1 => repeat (first | exact (Kd.R_reads' HO332.out).2.2 | (with_reducible refine Kd.C_alloc ?_ _) | (with_reducible refine Kd.C_drewN ?_ _) | (with_reducible refine Kd.C_drew ?_))); (case side2 => exact (Kd.R_reads' HO332.out).2.1); (case side3 => repeat (first | exact (Kd.R_reads' HO336.out).2.2 | (with_reducible refine Kd.C_alloc ?_ _) | (with_reducible refine Kd.C_drewN ?_ _) | (with_reducible refine Kd.C_drew ?_))); (case side4 => exact (Kd.R_reads' HO336.out).2.1); rintro e w' ⟨rfl, ⟨nd, rfl⟩⟩))
          go_meet
          case rel => exact ⟨_, (true), (by first | rfl | (simp; done) | (simp [*]; done)), H', ⟨by first | omega | exact Nat.le_refl _⟩, ⟨by (with_reducible repeat (first | apply Kd.R_alloc | apply Kd.R_drewN | apply Kd.R_drew)); exact Kd.R_mono HO332.out (fun _ hk => hk.2)⟩, ⟨by (with_reducible repeat (first | apply Kd.R_alloc | apply Kd.R_drewN | apply Kd.R_drew)); exact Kd.R_mono HO343.out (fun _ hk => hk.1.2)⟩, ⟨by repeat (first | (with_reducible first | exact HB.out | apply below_alloc | apply pw_below_drewN | apply below_drew1) | exact HB.out)⟩⟩
      · rw [if_neg c22] at H
        have c22b0 : (t330 == t334) = false := beq_eq_false_iff_ne.mpr c22
        have c22b1 : (t330 != t334) = true := bne_iff_ne.mpr c22
        (first | rw [c22b0] | (simp only [i64_w, i32_w]; rw [c22b0]) | skip)
        have H' := Aside0.mk H
        clear H
        go_wp2
        go_meet
        case rel => exact ⟨_, (true), (by first | rfl | (simp; done) | (simp [*]; done)), H', ⟨by first | omega | exact Nat.le_refl _⟩, ⟨by (with_reducible repeat (first | apply Kd.R_alloc | apply Kd.R_drewN | apply Kd.R_drew)); exact Kd.R_mono HO332.out (fun _ hk => hk.2)⟩, ⟨by (with_reducible repeat (first | apply Kd.R_alloc | apply Kd.R_drewN | apply Kd.R_drew)); exact Kd.R_mono HO343.out (fun _ hk => hk.1.2)⟩, ⟨by repeat (first | (with_reducible first | exact HB.out | apply below_alloc | apply pw_below_drewN | apply below_drew1) | exact HB.out)⟩⟩
    case rest =>
      clear HC12
      try clear c1
      try clear c2
      try clear p2
      try clear c3
      try clear c5
      try clear c6
      try clear c7
      try clear c8
      try clear c9
      try clear c13
      try clear c14
      try clear c15
      try clear c16
      try clear c17
      try clear c22
      try clear c22b0
      try clear c22b1
      try clear c24
      try clear c25
      try clear c25b0
      try clear c25b1
      try clear c26
      try clear c26b0
      try clear c26b1
      try clear c27
      try clear c27b0
      try clear c27b1
      try clear c28
      try clear c28b0
      try clear c28b1
      obtain ⟨kq, x92_11, rfl, HA, HJ11, HO_4, HO_12, HB⟩ := hcut
      cases kq with
      | zero => exact absurd HA.out (by simp [laws_FnSeamsHidden.j0])
      | succ kj11 =>
        have H := HA.out
        clear HA
        simp only [laws_FnSeamsHidden.j0] at H
        by_cases c44 : x92_11 = true
        · subst c44
          have H1 : (some false) = some r := by rw [if_pos rfl] at H; exact H
          clear H
          have H := H1
          clear H1
          obtain rfl := Option.some.inj H
          go_wp2
          go_ret
          exact ⟨by first | rfl | (simp [errW_none, errW_some] <;> rfl) | (simp [*, errW_none, errW_some] <;> rfl), by repeat (first | (with_reducible first | exact HB.out | apply below_alloc | apply pw_below_drewN | apply below_drew1) | exact HB.out)⟩
        · replace c44 := Bool.eq_false_iff.mpr c44
          subst c44
          have H1 : (if t338 = 0 then (laws_FnSeamsHidden.j1 kj11 t328 t329 t330 t341 t345 t346 ((decide (t339 > 0)) != (t330 == 0))) else (laws_FnSeamsHidden.j1 kj11 t328 t329 t330 t341 t345 t346 false)) = some r := by rw [if_neg (show ¬ (false = true) by decide)] at H; exact H
          clear H
          have H := H1
          clear H1
          have HC45 := Aside0.mk H
          clear H
          go_upto_region 13 with (fail)
          go_cut [101] (fun v101 wc => ∃ (kq : Nat) (x101_44 : Bool), v101 = .bool x101_44 ∧ Aside0 (laws_FnSeamsHidden.j1 kq t328 t329 t330 t341 t345 t346 x101_44 = some r) ∧ Aside0 (kq ≤ kj11) ∧ Aside0 (Kd.R (Kd.int .i64) 2 wc w.heap.size (fun k_ => some k_ ≠ ((.slice Ao19 t341.length co19) : Value).ownBlock) v331 t329) ∧ Aside0 (Kd.R (Kd.int .i64) 2 wc w.heap.size (fun k_ => some k_ ≠ (v331 : Value).ownBlock) (.slice Ao19 t341.length co19) t341) ∧ Aside0 (Below w.heap.size w wc))
          case first =>
            have H := HC45.out
            clear HC45
            by_cases c46 : t338 = 0
            · rw [if_pos c46] at H
              have c46b0 : (t338 == 0) = true := beq_iff_eq.mpr c46
              have c46b1 : (t338 != 0) = false := bne_eq_false_iff_eq.mpr c46
              clear c46
              (first | rw [c46b0] | (simp only [i64_w, i32_w]; rw [c46b0]) | skip)
              have H' := Aside0.mk H
              clear H
              go_wp2
              go_meet
              case rel => exact ⟨_, (((decide (t339 > 0)) != (t330 == 0))), (by first | rfl | (simp; done) | (simp [*]; done)), H', ⟨by have := HJ11.out; first | omega | exact Nat.le_refl _⟩, ⟨by (with_reducible repeat (first | apply Kd.R_alloc | apply Kd.R_drewN | apply Kd.R_drew)); exact HO_4.out⟩, ⟨by (with_reducible repeat (first | apply Kd.R_alloc | apply Kd.R_drewN | apply Kd.R_drew)); exact HO_12.out⟩, ⟨by repeat (first | (with_reducible first | exact HB.out | apply below_alloc | apply pw_below_drewN | apply below_drew1) | exact HB.out)⟩⟩
            · rw [if_neg c46] at H
              have c46b0 : (t338 == 0) = false := beq_eq_false_iff_ne.mpr c46
              have c46b1 : (t338 != 0) = true := bne_iff_ne.mpr c46
              (first | rw [c46b0] | (simp only [i64_w, i32_w]; rw [c46b0]) | skip)
              have H' := Aside0.mk H
              clear H
              go_wp2
              go_meet
              case rel => exact ⟨_, (false), (by first | rfl | (simp; done) | (simp [*]; done)), H', ⟨by have := HJ11.out; first | omega | exact Nat.le_refl _⟩, ⟨by (with_reducible repeat (first | apply Kd.R_alloc | apply Kd.R_drewN | apply Kd.R_drew)); exact HO_4.out⟩, ⟨by (with_reducible repeat (first | apply Kd.R_alloc | apply Kd.R_drewN | apply Kd.R_drew)); exact HO_12.out⟩, ⟨by repeat (first | (with_reducible first | exact HB.out | apply below_alloc | apply pw_below_drewN | apply below_drew1) | exact HB.out)⟩⟩
          case rest =>
            clear HC45
            try clear c1
            try clear c2
            try clear p2
            try clear c3
            try clear c4
            try clear c5
            try clear c6
            try clear c7
            try clear c8
            try clear c9
            try clear c13
            try clear c14
            try clear c15
            try clear c16
            try clear c17
            try clear c22
            try clear c22b0
            try clear c22b1
            try clear c24
            try clear c25
            try clear c25b0
            try clear c25b1
            try clear c26
            try clear c26b0
            try clear c26b1
            try clear c27
            try clear c27b0
            try clear c27b1
            try clear c28
            try clear c28b0
            try clear c28b1
            try clear c44
            try clear c46
            try clear c46b0
            try clear c46b1
            try clear p2
            obtain ⟨kq, x101_44, rfl, HA, HJ44, HO_4, HO_12, HB⟩ := hcut
            cases kq with
            | zero => exact absurd HA.out (by simp [laws_FnSeamsHidden.j1])
            | succ kj44 =>
              have H := HA.out
              clear HA
              simp only [laws_FnSeamsHidden.j1] at H
              by_cases c47 : x101_44 = true
              · subst c47
                have H1 : (some false) = some r := by rw [if_pos rfl] at H; exact H
                clear H
                have H := H1
                clear H1
                obtain rfl := Option.some.inj H
                go_wp2
                go_ret
                exact ⟨by first | rfl | (simp [errW_none, errW_some] <;> rfl) | (simp [*, errW_none, errW_some] <;> rfl), by repeat (first | (with_reducible first | exact HB.out | apply below_alloc | apply pw_below_drewN | apply below_drew1) | exact HB.out)⟩
              · replace c47 := Bool.eq_false_iff.mpr c47
                subst c47
                have H1 : (if t345 = 0 then ((impl_OrderFor.f kj44 t346).bind fun bt351 => (if bt351.2 = 0 then (laws_FnSeamsHidden.j2 kj44 t328 t329 t330 ((bt351.1.length : Int) != (t341.length : Int))) else (laws_FnSeamsHidden.j2 kj44 t328 t329 t330 true))) else (if t330 = 0 then ((impl_UpperAt.f kj44 t329).bind fun bt357 => (if bt357.2 = 0 then (some (bt357.1.toList == t328.toList)) else (some false))) else (some true))) = some r := by rw [if_neg (show ¬ (false = true) by decide)] at H; exact H
                clear H
                have H := H1
                clear H1
                by_cases c48 : t345 = 0
                · rw [if_pos c48] at H
                  have c48b0 : (t345 == 0) = true := beq_iff_eq.mpr c48
                  have c48b1 : (t345 != 0) = false := bne_eq_false_iff_eq.mpr c48
                  clear c48
                  replace H := Option.bind_eq_some_iff.mp H
                  obtain ⟨⟨t351, t352⟩, A490, H⟩ := H
                  replace H : (if t352 = 0 then (laws_FnSeamsHidden.j2 kj44 t328 t329 t330 ((t351.length : Int) != (t341.length : Int))) else (laws_FnSeamsHidden.j2 kj44 t328 t329 t330 true)) = some r := H
                  have A49 := Aside0.mk A490
                  clear A490
                  have HC50 := Aside0.mk H
                  clear H
                  go_upto_region 17 with (first | ((with_reducible refine gate_callee (f := 9) rfl ?_); refine goesL_ (some 106) rfl rfl Tryd.func9 (by kernel_rfl) rfl #[.string t346] rfl (by (try simp only [List.map_toArray, List.map_cons, List.map_nil]); first | done | rfl | (simp only [List.length_drop, List.length_take]; rfl)) ?_; (with_reducible refine (impl_OrderFor.calls kj44 t346 t351 t352 _ A49.out).mono ?_); rintro e w51 ⟨v353, rfl, ho0, hb⟩; refine ⟨_, rfl, ?_⟩; have n0_ := Aside0.mk (Kd.R_elder' (by (with_reducible repeat (first | apply Kd.R_alloc | apply Kd.R_drewN | apply Kd.R_drew)); exact HO_4.out) (Kd.R_base ho0) hb); have n1_ := Aside0.mk (Kd.R_elder' (by (with_reducible repeat (first | apply Kd.R_alloc | apply Kd.R_drewN | apply Kd.R_drew)); exact HO_12.out) (Kd.R_base ho0) hb); have n2_ := Aside0.mk (Kd.R_lower (Kd.R_new' (Kd.R_new' ho0 (Kd.R_lt (by (with_reducible repeat (first | apply Kd.R_alloc | apply Kd.R_drewN | apply Kd.R_drew)); exact HO_4.out))) (Kd.R_lt (by (with_reducible repeat (first | apply Kd.R_alloc | apply Kd.R_drewN | apply Kd.R_drew)); exact HO_12.out))) (below_size (by repeat (first | (with_reducible first | exact HB.out | apply below_alloc | apply pw_below_drewN | apply below_drew1) | exact HB.out)))); have n3_ := Aside0.mk (below_step (by repeat (first | (with_reducible first | exact HB.out | apply below_alloc | apply pw_below_drewN | apply below_drew1) | exact HB.out)) hb); clear HO_4; clear HO_12; clear HB; have HO_4 := n0_; have HO_12 := n1_; have HO354 := n2_; have HB := n3_; clear n0_ n1_ n2_ n3_; (try clear hb); (try clear hb2); (try clear hk); (try clear hi); (try clear ho0)))
                  (try simp only [Act.put, List.setIfInBounds_toArray, List.set_cons_zero, List.set_cons_succ])
                  go_cut [117] (fun v117 wc => ∃ (kq : Nat) (x117_49 : Bool), v117 = .bool x117_49 ∧ Aside0 (laws_FnSeamsHidden.j2 kq t328 t329 t330 x117_49 = some r) ∧ Aside0 (kq ≤ kj44) ∧ Aside0 (Kd.R (Kd.int .i64) 2 wc w.heap.size (fun _ => True) v331 t329) ∧ Aside0 (Below w.heap.size w wc))
                  case first =>
                    have H := HC50.out
                    clear HC50
                    by_cases c52 : t352 = 0
                    · rw [if_pos c52] at H
                      have c52b0 : (t352 == 0) = true := beq_iff_eq.mpr c52
                      have c52b1 : (t352 != 0) = false := bne_eq_false_iff_eq.mpr c52
                      clear c52
                      (first | rw [c52b0] | (simp only [i64_w, i32_w]; rw [c52b0]) | skip)
                      have H' := Aside0.mk H
                      clear H
                      obtain ⟨Ao53, co53, eo53⟩ := Kd.R_slice HO354.out
                      subst eo53
                      go_wp2
                      go_meet
                      case rel => exact ⟨_, (((t351.length : Int) != (t341.length : Int))), (by first | rfl | (simp; done) | (simp [*]; done)), H', ⟨by have := HJ11.out; have := HJ44.out; first | omega | exact Nat.le_refl _⟩, ⟨by (with_reducible repeat (first | apply Kd.R_alloc | apply Kd.R_drewN | apply Kd.R_drew)); exact Kd.R_mono HO_4.out (fun _ hk => trivial)⟩, ⟨by repeat (first | (with_reducible first | exact HB.out | apply below_alloc | apply pw_below_drewN | apply below_drew1) | exact HB.out)⟩⟩
                    · rw [if_neg c52] at H
                      have c52b0 : (t352 == 0) = false := beq_eq_false_iff_ne.mpr c52
                      have c52b1 : (t352 != 0) = true := bne_iff_ne.mpr c52
                      (first | rw [c52b0] | (simp only [i64_w, i32_w]; rw [c52b0]) | skip)
                      have H' := Aside0.mk H
                      clear H
                      go_wp2
                      go_meet
                      case rel => exact ⟨_, (true), (by first | rfl | (simp; done) | (simp [*]; done)), H', ⟨by have := HJ11.out; have := HJ44.out; first | omega | exact Nat.le_refl _⟩, ⟨by (with_reducible repeat (first | apply Kd.R_alloc | apply Kd.R_drewN | apply Kd.R_drew)); exact Kd.R_mono HO_4.out (fun _ hk => trivial)⟩, ⟨by repeat (first | (with_reducible first | exact HB.out | apply below_alloc | apply pw_below_drewN | apply below_drew1) | exact HB.out)⟩⟩
                  case rest =>
                    clear HC50
                    try clear c1
                    try clear c2
                    try clear p2
                    try clear c3
                    try clear c4
                    try clear c5
                    try clear c6
                    try clear c7
                    try clear c8
                    try clear c9
                    try clear c13
                    try clear c14
                    try clear c15
                    try clear c16
                    try clear c17
                    try clear c22
                    try clear c22b0
                    try clear c22b1
                    try clear c24
                    try clear c25
                    try clear c25b0
                    try clear c25b1
                    try clear c26
                    try clear c26b0
                    try clear c26b1
                    try clear c27
                    try clear c27b0
                    try clear c27b1
                    try clear c28
                    try clear c28b0
                    try clear c28b1
                    try clear c44
                    try clear c46
                    try clear c46b0
                    try clear c46b1
                    try clear c47
                    try clear c48
                    try clear c48b0
                    try clear c48b1
                    try clear c52
                    try clear c52b0
                    try clear c52b1
                    try clear p2
                    obtain ⟨kq, x117_49, rfl, HA, HJ49, HO_4, HB⟩ := hcut
                    cases kq with
                    | zero => exact absurd HA.out (by simp [laws_FnSeamsHidden.j2])
                    | succ kj49 =>
                      have H := HA.out
                      clear HA
                      simp only [laws_FnSeamsHidden.j2] at H
                      by_cases c54 : x117_49 = true
                      · subst c54
                        have H1 : (some false) = some r := by rw [if_pos rfl] at H; exact H
                        clear H
                        have H := H1
                        clear H1
                        obtain rfl := Option.some.inj H
                        go_wp2
                        go_ret
                        exact ⟨by first | rfl | (simp [errW_none, errW_some] <;> rfl) | (simp [*, errW_none, errW_some] <;> rfl), by repeat (first | (with_reducible first | exact HB.out | apply below_alloc | apply pw_below_drewN | apply below_drew1) | exact HB.out)⟩
                      · replace c54 := Bool.eq_false_iff.mpr c54
                        subst c54
                        have H1 : (if t330 = 0 then ((impl_UpperAt.f kj49 t329).bind fun bt355 => (if bt355.2 = 0 then (some (bt355.1.toList == t328.toList)) else (some false))) else (some true)) = some r := by rw [if_neg (show ¬ (false = true) by decide)] at H; exact H
                        clear H
                        have H := H1
                        clear H1
                        by_cases c55 : t330 = 0
                        · rw [if_pos c55] at H
                          have c55b0 : (t330 == 0) = true := beq_iff_eq.mpr c55
                          have c55b1 : (t330 != 0) = false := bne_eq_false_iff_eq.mpr c55
                          clear c55
                          replace H := Option.bind_eq_some_iff.mp H
                          obtain ⟨⟨t355, t356⟩, A560, H⟩ := H
                          replace H : (if t356 = 0 then (some (t355.toList == t328.toList)) else (some false)) = some r := H
                          have A56 := Aside0.mk A560
                          clear A560
                          by_cases c57 : t356 = 0
                          · rw [if_pos c57] at H
                            have c57b0 : (t356 == 0) = true := beq_iff_eq.mpr c57
                            have c57b1 : (t356 != 0) = false := bne_eq_false_iff_eq.mpr c57
                            clear c57
                            obtain rfl := Option.some.inj H
                            obtain ⟨Ao58, co58, eo58⟩ := Kd.R_slice HO_4.out
                            subst eo58
                            go_wp2_with (first | ((with_reducible refine gate_callee (f := 16) rfl ?_); refine goesL_ (some 122) rfl rfl Tryd.func16 (by kernel_rfl) rfl #[.slice Ao58 t329.length co58] rfl (by (try simp only [List.map_toArray, List.map_cons, List.map_nil]); first | done | rfl | (simp only [List.length_drop, List.length_take]; rfl)) ?_; (with_reducible refine (impl_UpperAt.calls kj49 _ _ t329 t355 t356 _ ?side1 ?side2 A56.out).mono ?_); (case side1 => repeat (first | exact (Kd.R_reads' HO_4.out).2.2 | (with_reducible refine Kd.C_alloc ?_ _) | (with_reducible refine Kd.C_drewN ?_ _) | (with_reducible refine Kd.C_drew ?_))); (case side2 => exact (Kd.R_reads' HO_4.out).2.1); rintro e w59 ⟨rfl, hb⟩; refine ⟨_, rfl, ?_⟩; have n0_ := Aside0.mk (Kd.R_below (by (with_reducible repeat (first | apply Kd.R_alloc | apply Kd.R_drewN | apply Kd.R_drew)); exact HO_4.out) hb); have n1_ := Aside0.mk (below_step (by repeat (first | (with_reducible first | exact HB.out | apply below_alloc | apply pw_below_drewN | apply below_drew1) | exact HB.out)) hb); clear HO_4; clear HB; have HO_4 := n0_; have HB := n1_; clear n0_ n1_; (try clear hb); (try clear hb2); (try clear hk); (try clear hi)))
                            go_ret
                            exact ⟨by first | rfl | (simp [errW_none, errW_some] <;> rfl) | (simp [*, errW_none, errW_some] <;> rfl), by repeat (first | (with_reducible first | exact HB.out | apply below_alloc | apply pw_below_drewN | apply below_drew1) | exact HB.out)⟩
                          · rw [if_neg c57] at H
                            have c57b0 : (t356 == 0) = false := beq_eq_false_iff_ne.mpr c57
                            have c57b1 : (t356 != 0) = true := bne_iff_ne.mpr c57
                            obtain rfl := Option.some.inj H
                            obtain ⟨Ao60, co60, eo60⟩ := Kd.R_slice HO_4.out
                            subst eo60
                            go_wp2_with (first | ((with_reducible refine gate_callee (f := 16) rfl ?_); refine goesL_ (some 122) rfl rfl Tryd.func16 (by kernel_rfl) rfl #[.slice Ao60 t329.length co60] rfl (by (try simp only [List.map_toArray, List.map_cons, List.map_nil]); first | done | rfl | (simp only [List.length_drop, List.length_take]; rfl)) ?_; (with_reducible refine (impl_UpperAt.calls kj49 _ _ t329 t355 t356 _ ?side1 ?side2 A56.out).mono ?_); (case side1 => repeat (first | exact (Kd.R_reads' HO_4.out).2.2 | (with_reducible refine Kd.C_alloc ?_ _) | (with_reducible refine Kd.C_drewN ?_ _) | (with_reducible refine Kd.C_drew ?_))); (case side2 => exact (Kd.R_reads' HO_4.out).2.1); rintro e w61 ⟨rfl, hb⟩; refine ⟨_, rfl, ?_⟩; have n0_ := Aside0.mk (Kd.R_below (by (with_reducible repeat (first | apply Kd.R_alloc | apply Kd.R_drewN | apply Kd.R_drew)); exact HO_4.out) hb); have n1_ := Aside0.mk (below_step (by repeat (first | (with_reducible first | exact HB.out | apply below_alloc | apply pw_below_drewN | apply below_drew1) | exact HB.out)) hb); clear HO_4; clear HB; have HO_4 := n0_; have HB := n1_; clear n0_ n1_; (try clear hb); (try clear hb2); (try clear hk); (try clear hi)))
                            go_ret
                            exact ⟨by first | rfl | (simp [errW_none, errW_some] <;> rfl) | (simp [*, errW_none, errW_some] <;> rfl), by repeat (first | (with_reducible first | exact HB.out | apply below_alloc | apply pw_below_drewN | apply below_drew1) | exact HB.out)⟩
                        · rw [if_neg c55] at H
                          have c55b0 : (t330 == 0) = false := beq_eq_false_iff_ne.mpr c55
                          have c55b1 : (t330 != 0) = true := bne_iff_ne.mpr c55
                          obtain rfl := Option.some.inj H
                          go_wp2
                          go_ret
                          exact ⟨by first | rfl | (simp [errW_none, errW_some] <;> rfl) | (simp [*, errW_none, errW_some] <;> rfl), by repeat (first | (with_reducible first | exact HB.out | apply below_alloc | apply pw_below_drewN | apply below_drew1) | exact HB.out)⟩
                · rw [if_neg c48] at H
                  have c48b0 : (t345 == 0) = false := beq_eq_false_iff_ne.mpr c48
                  have c48b1 : (t345 != 0) = true := bne_iff_ne.mpr c48
                  by_cases c62 : t330 = 0
                  · rw [if_pos c62] at H
                    have c62b0 : (t330 == 0) = true := beq_iff_eq.mpr c62
                    have c62b1 : (t330 != 0) = false := bne_eq_false_iff_eq.mpr c62
                    clear c62
                    replace H := Option.bind_eq_some_iff.mp H
                    obtain ⟨⟨t357, t358⟩, A630, H⟩ := H
                    replace H : (if t358 = 0 then (some (t357.toList == t328.toList)) else (some false)) = some r := H
                    have A63 := Aside0.mk A630
                    clear A630
                    by_cases c64 : t358 = 0
                    · rw [if_pos c64] at H
                      have c64b0 : (t358 == 0) = true := beq_iff_eq.mpr c64
                      have c64b1 : (t358 != 0) = false := bne_eq_false_iff_eq.mpr c64
                      clear c64
                      obtain rfl := Option.some.inj H
                      obtain ⟨Ao65, co65, eo65⟩ := Kd.R_slice HO_4.out
                      subst eo65
                      go_wp2_with (first | ((with_reducible refine gate_callee (f := 16) rfl ?_); refine goesL_ (some 122) rfl rfl Tryd.func16 (by kernel_rfl) rfl #[.slice Ao65 t329.length co65] rfl (by (try simp only [List.map_toArray, List.map_cons, List.map_nil]); first | done | rfl | (simp only [List.length_drop, List.length_take]; rfl)) ?_; (with_reducible refine (impl_UpperAt.calls kj44 _ _ t329 t357 t358 _ ?side1 ?side2 A63.out).mono ?_); (case side1 => repeat (first | exact (Kd.R_reads' HO_4.out).2.2 | (with_reducible refine Kd.C_alloc ?_ _) | (with_reducible refine Kd.C_drewN ?_ _) | (with_reducible refine Kd.C_drew ?_))); (case side2 => exact (Kd.R_reads' HO_4.out).2.1); rintro e w66 ⟨rfl, hb⟩; refine ⟨_, rfl, ?_⟩; have n0_ := Aside0.mk (Kd.R_below (by (with_reducible repeat (first | apply Kd.R_alloc | apply Kd.R_drewN | apply Kd.R_drew)); exact HO_4.out) hb); have n1_ := Aside0.mk (Kd.R_below (by (with_reducible repeat (first | apply Kd.R_alloc | apply Kd.R_drewN | apply Kd.R_drew)); exact HO_12.out) hb); have n2_ := Aside0.mk (below_step (by repeat (first | (with_reducible first | exact HB.out | apply below_alloc | apply pw_below_drewN | apply below_drew1) | exact HB.out)) hb); clear HO_4; clear HO_12; clear HB; have HO_4 := n0_; have HO_12 := n1_; have HB := n2_; clear n0_ n1_ n2_; (try clear hb); (try clear hb2); (try clear hk); (try clear hi)))
                      go_ret
                      exact ⟨by first | rfl | (simp [errW_none, errW_some] <;> rfl) | (simp [*, errW_none, errW_some] <;> rfl), by repeat (first | (with_reducible first | exact HB.out | apply below_alloc | apply pw_below_drewN | apply below_drew1) | exact HB.out)⟩
                    · rw [if_neg c64] at H
                      have c64b0 : (t358 == 0) = false := beq_eq_false_iff_ne.mpr c64
                      have c64b1 : (t358 != 0) = true := bne_iff_ne.mpr c64
                      obtain rfl := Option.some.inj H
                      obtain ⟨Ao67, co67, eo67⟩ := Kd.R_slice HO_4.out
                      subst eo67
                      go_wp2_with (first | ((with_reducible refine gate_callee (f := 16) rfl ?_); refine goesL_ (some 122) rfl rfl Tryd.func16 (by kernel_rfl) rfl #[.slice Ao67 t329.length co67] rfl (by (try simp only [List.map_toArray, List.map_cons, List.map_nil]); first | done | rfl | (simp only [List.length_drop, List.length_take]; rfl)) ?_; (with_reducible refine (impl_UpperAt.calls kj44 _ _ t329 t357 t358 _ ?side1 ?side2 A63.out).mono ?_); (case side1 => repeat (first | exact (Kd.R_reads' HO_4.out).2.2 | (with_reducible refine Kd.C_alloc ?_ _) | (with_reducible refine Kd.C_drewN ?_ _) | (with_reducible refine Kd.C_drew ?_))); (case side2 => exact (Kd.R_reads' HO_4.out).2.1); rintro e w68 ⟨rfl, hb⟩; refine ⟨_, rfl, ?_⟩; have n0_ := Aside0.mk (Kd.R_below (by (with_reducible repeat (first | apply Kd.R_alloc | apply Kd.R_drewN | apply Kd.R_drew)); exact HO_4.out) hb); have n1_ := Aside0.mk (Kd.R_below (by (with_reducible repeat (first | apply Kd.R_alloc | apply Kd.R_drewN | apply Kd.R_drew)); exact HO_12.out) hb); have n2_ := Aside0.mk (below_step (by repeat (first | (with_reducible first | exact HB.out | apply below_alloc | apply pw_below_drewN | apply below_drew1) | exact HB.out)) hb); clear HO_4; clear HO_12; clear HB; have HO_4 := n0_; have HO_12 := n1_; have HB := n2_; clear n0_ n1_ n2_; (try clear hb); (try clear hb2); (try clear hk); (try clear hi)))
                      go_ret
                      exact ⟨by first | rfl | (simp [errW_none, errW_some] <;> rfl) | (simp [*, errW_none, errW_some] <;> rfl), by repeat (first | (with_reducible first | exact HB.out | apply below_alloc | apply pw_below_drewN | apply below_drew1) | exact HB.out)⟩
                  · rw [if_neg c62] at H
                    have c62b0 : (t330 == 0) = false := beq_eq_false_iff_ne.mpr c62
                    have c62b1 : (t330 != 0) = true := bne_iff_ne.mpr c62
                    obtain rfl := Option.some.inj H
                    go_wp2
                    go_ret
                    exact ⟨by first | rfl | (simp [errW_none, errW_some] <;> rfl) | (simp [*, errW_none, errW_some] <;> rfl), by repeat (first | (with_reducible first | exact HB.out | apply below_alloc | apply pw_below_drewN | apply below_drew1) | exact HB.out)⟩

/-- THE ONE PURE STATEMENT of laws_FnSeamsHidden: yours. -/
def laws_FnSeamsHidden.Pure : Prop := ∀ (l0 : List Int), l0.length ≤ maxLen → l0.length * 1 ≤ 140737488351232 → (∀ x ∈ l0, (Lit.int .u8 x).wf = true) → ∃ k, laws_FnSeamsHidden.f k l0 = some true
theorem laws_FnSeamsHidden.walk (P : laws_FnSeamsHidden.Pure) (a0 : Option Addr) (len0 cap0 : Nat) (z0 : List Int) (w : World) (w0 : (a0 = none ∧ len0 = 0 ∧ cap0 = 0 ∧ z0 = []) ∨ ∃ x, a0 = some x ∧ len0 ≤ cap0 ∧ cap0 ≤ maxLen ∧ z0.length = cap0 ∧ (∀ i, i < z0.length → w.cell? (x.add i) = some (.int .u8 (z0.getD i 0))) ∧ ∀ n ∈ z0, (Lit.int .u8 n).wf = true) (y0 : len0 * 1 ≤ 140737488351232) :
    Calls Tryd.prog 5 #[.slice a0 len0 cap0] w fun e w' => e = .returned (.bool true) ∧ Below w.heap.size w w' := by
  obtain ⟨l0, rfl, hr0, hm0, hw0, hc0⟩ := ReadsInt.ofRowC w0
  obtain ⟨k, h⟩ := P l0 hm0 y0 hw0
  refine (laws_FnSeamsHidden.calls k _ _ l0 true w (Kd.C_of_reads (d := (0 : Int)) (h1 := fun _ => rfl) hr0) hc0 h).mono ?_
  rintro e w' ⟨rfl, hd⟩
  exact ⟨rfl, hd⟩

end Go.Proofs.YtfpddpkloplpeaaDoor.QFnSeamsHidden
