/- Walks of the Go functions that the law FnSeams reaches: written by a program of this session. -/
import Derived.Test.YtcgcmnebenllcaaQFnSeamsx0
import Derived.Test.YtcgcmnebenllcaaQFnSeamsx1
import Derived.Test.YtcgcmnebenllcaaQFnSeamsx3
import Derived.Test.YtcgcmnebenllcaaQFnSeamsx4
import Derived.Test.YtcgcmnebenllcaaQFnSeamsx5
namespace Go.Proofs.Ytcgcmnebenllcaa.QFnSeams
open Go.RowKit Go.Proofs.YtcgcmnebenllcaaW.PrintWords Go.Proofs.YtcgcmnebenllcaaW.PrintLast Go.Proofs.YtcgcmnebenllcaaW.PrintMore
attribute [local go_sem] max2_int min2_int max_two min_two max_three min_three max_four min_four   -- for this text's walks alone
set_option linter.unusedVariables false
set_option linter.unusedSimpArgs false

/-! ### laws_FnSeams: function 5 -/
mutual
def laws_FnSeams.j0 : Nat → List Int → List Int → Int → Int → List Int → Bool → Option (Bool)
  | 0, _, _, _, _, _, _ => none
  | k + 1, x1, x5, x6, x7, x9, x135 => if x135 = true then (some false) else (laws_FnSeams.l0 k x1 x5 x6 x7 x9 0)
def laws_FnSeams.l0 : Nat → List Int → List Int → Int → Int → List Int → Int → Option (Bool)
  | 0, _, _, _, _, _, _ => none
  | k + 1, x1, x5, x6, x7, x9, x21 => if x21 < (x9.length : Int) then (if 0 ≤ x21 then (if (rd x9 x21) < (wrap64 (-x6)) then (some false) else (if (rd x9 x21) > x6 then (some false) else (laws_FnSeams.l0 k x1 x5 x6 x7 x9 (wrap64 (x21 + 1))))) else (none)) else ((spec_A2Shifts.f k x1 (x5.length : Int) x6).bind fun t219 => ((spec_GapsAfter.f k x5 t219).bind fun bt222 => ((spec_WorstGap.f k bt222.1).bind fun bt226 => (if bt222.2 = 0 then (if bt226.2 = 0 then (some (decide (bt226.1 ≥ x7))) else (some false)) else (some false)))))
end
def laws_FnSeams.f (k : Nat) (l0 : List Int) (l1 : List Int) : Option (Bool) := (laws_a2Long.f l0 l1).bind fun t193 => (if t193 = true then (some true) else ((spec_A2Gaps.f k l0).bind fun t194 => ((laws_a2At.f l1 0 5).bind fun t197 => ((impl_LeastWorst.f k t194 t197).bind fun bt198 => ((impl_BestShifts.f k t194 t197).bind fun bt200 => ((impl_GapsAfter.f k t194 bt200.1).bind fun bt204 => ((impl_WorstGap.f k bt204.1).bind fun bt208 => ((impl_ClosingError.f k t194).bind fun bt210 => ((impl_ClosingError.f k bt204.1).bind fun bt212 => ((impl_WorstGap.f k t194).bind fun bt214 => (if bt198.2 = 0 then (if bt200.2 = 0 then (if (bt200.1.length : Int) = (t194.length : Int) then (if bt204.2 = 0 then (if bt208.2 = 0 then (if bt208.1 = bt198.1 then (if bt210.2 = 0 then ((laws_a2Sum.f k t194).bind fun t216 => (if bt210.1 = t216 then (if bt212.2 = 0 then (if bt212.1 = bt210.1 then (if bt214.2 = 0 then (if bt214.1 < bt198.1 then (laws_FnSeams.j0 k l1 t194 t197 bt198.1 bt200.1 true) else (laws_FnSeams.j0 k l1 t194 t197 bt198.1 bt200.1 (decide ((wrap64 (bt198.1 * (t194.length : Int))) < (mx bt210.1 (wrap64 (-bt210.1))))))) else (laws_FnSeams.j0 k l1 t194 t197 bt198.1 bt200.1 true)) else (laws_FnSeams.j0 k l1 t194 t197 bt198.1 bt200.1 true)) else (laws_FnSeams.j0 k l1 t194 t197 bt198.1 bt200.1 true)) else (laws_FnSeams.j0 k l1 t194 t197 bt198.1 bt200.1 true))) else (laws_FnSeams.j0 k l1 t194 t197 bt198.1 bt200.1 true)) else (laws_FnSeams.j0 k l1 t194 t197 bt198.1 bt200.1 true)) else (laws_FnSeams.j0 k l1 t194 t197 bt198.1 bt200.1 true)) else (laws_FnSeams.j0 k l1 t194 t197 bt198.1 bt200.1 true)) else (laws_FnSeams.j0 k l1 t194 t197 bt198.1 bt200.1 true)) else (laws_FnSeams.j0 k l1 t194 t197 bt198.1 bt200.1 true)) else (laws_FnSeams.j0 k l1 t194 t197 bt198.1 bt200.1 true))))))))))))
theorem laws_FnSeams.mono_l : ∀ k, (∀ y0 y1 y2 y3 y4 y5, LeO (laws_FnSeams.j0 k y0 y1 y2 y3 y4 y5) (laws_FnSeams.j0 (k + 1) y0 y1 y2 y3 y4 y5)) ∧ (∀ y0 y1 y2 y3 y4 y5, LeO (laws_FnSeams.l0 k y0 y1 y2 y3 y4 y5) (laws_FnSeams.l0 (k + 1) y0 y1 y2 y3 y4 y5))
  | 0 => ⟨fun _ _ _ _ _ _ r h => by simp [laws_FnSeams.j0] at h, fun _ _ _ _ _ _ r h => by simp [laws_FnSeams.l0] at h⟩
  | k + 1 => by
    obtain ⟨ih0, ih1⟩ := laws_FnSeams.mono_l k
    refine ⟨?_, ?_⟩
    · intro y0 y1 y2 y3 y4 y5
      unfold laws_FnSeams.j0
      repeat' first
      | (with_reducible exact ih0 _ _ _ _ _ _)
      | (with_reducible exact ih1 _ _ _ _ _ _)
      | (with_reducible exact impl_BestShifts.mono _ _ _)
      | (with_reducible exact impl_ClosingError.mono _ _)
      | (with_reducible exact impl_GapsAfter.mono _ _ _)
      | (with_reducible exact impl_LeastWorst.mono _ _ _)
      | (with_reducible exact impl_WorstGap.mono _ _)
      | (with_reducible exact laws_a2Sum.mono _ _)
      | (with_reducible exact spec_A2Gaps.mono _ _)
      | (with_reducible exact spec_A2Shifts.mono _ _ _ _)
      | (with_reducible exact spec_GapsAfter.mono _ _ _)
      | (with_reducible exact spec_WorstGap.mono _ _)
      | (with_reducible exact LeO.refl _)
      | (with_reducible exact LeO.none _)
      | (with_reducible refine LeO.ite ?_ ?_)
      | (with_reducible refine LeO.bind ?_ (fun _ => ?_))
      | exact ih0 _ _ _ _ _ _
      | exact ih1 _ _ _ _ _ _
      | exact impl_BestShifts.mono _ _ _
      | exact impl_ClosingError.mono _ _
      | exact impl_GapsAfter.mono _ _ _
      | exact impl_LeastWorst.mono _ _ _
      | exact impl_WorstGap.mono _ _
      | exact laws_a2Sum.mono _ _
      | exact spec_A2Gaps.mono _ _
      | exact spec_A2Shifts.mono _ _ _ _
      | exact spec_GapsAfter.mono _ _ _
      | exact spec_WorstGap.mono _ _
      | exact LeO.none _
      | refine LeO.ite ?_ ?_
      | refine LeO.bind ?_ (fun _ => ?_)
    · intro y0 y1 y2 y3 y4 y5
      unfold laws_FnSeams.l0
      repeat' first
      | (with_reducible exact ih0 _ _ _ _ _ _)
      | (with_reducible exact ih1 _ _ _ _ _ _)
      | (with_reducible exact impl_BestShifts.mono _ _ _)
      | (with_reducible exact impl_ClosingError.mono _ _)
      | (with_reducible exact impl_GapsAfter.mono _ _ _)
      | (with_reducible exact impl_LeastWorst.mono _ _ _)
      | (with_reducible exact impl_WorstGap.mono _ _)
      | (with_reducible exact laws_a2Sum.mono _ _)
      | (with_reducible exact spec_A2Gaps.mono _ _)
      | (with_reducible exact spec_A2Shifts.mono _ _ _ _)
      | (with_reducible exact spec_GapsAfter.mono _ _ _)
      | (with_reducible exact spec_WorstGap.mono _ _)
      | (with_reducible exact LeO.refl _)
      | (with_reducible exact LeO.none _)
      | (with_reducible refine LeO.ite ?_ ?_)
      | (with_reducible refine LeO.bind ?_ (fun _ => ?_))
      | exact ih0 _ _ _ _ _ _
      | exact ih1 _ _ _ _ _ _
      | exact impl_BestShifts.mono _ _ _
      | exact impl_ClosingError.mono _ _
      | exact impl_GapsAfter.mono _ _ _
      | exact impl_LeastWorst.mono _ _ _
      | exact impl_WorstGap.mono _ _
      | exact laws_a2Sum.mono _ _
      | exact spec_A2Gaps.mono _ _
      | exact spec_A2Shifts.mono _ _ _ _
      | exact spec_GapsAfter.mono _ _ _
      | exact spec_WorstGap.mono _ _
      | exact LeO.none _
      | refine LeO.ite ?_ ?_
      | refine LeO.bind ?_ (fun _ => ?_)
theorem laws_FnSeams.mono : ∀ a0 a1 k, LeO (laws_FnSeams.f k a0 a1) (laws_FnSeams.f (k + 1) a0 a1) := by
  intro a0 a1 k
  obtain ⟨ih0, ih1⟩ := laws_FnSeams.mono_l k
  unfold laws_FnSeams.f
  repeat' first
      | (with_reducible exact ih0 _ _ _ _ _ _)
      | (with_reducible exact ih1 _ _ _ _ _ _)
      | (with_reducible exact impl_BestShifts.mono _ _ _)
      | (with_reducible exact impl_ClosingError.mono _ _)
      | (with_reducible exact impl_GapsAfter.mono _ _ _)
      | (with_reducible exact impl_LeastWorst.mono _ _ _)
      | (with_reducible exact impl_WorstGap.mono _ _)
      | (with_reducible exact laws_a2Sum.mono _ _)
      | (with_reducible exact spec_A2Gaps.mono _ _)
      | (with_reducible exact spec_A2Shifts.mono _ _ _ _)
      | (with_reducible exact spec_GapsAfter.mono _ _ _)
      | (with_reducible exact spec_WorstGap.mono _ _)
      | (with_reducible exact LeO.refl _)
      | (with_reducible exact LeO.none _)
      | (with_reducible refine LeO.ite ?_ ?_)
      | (with_reducible refine LeO.bind ?_ (fun _ => ?_))
      | exact ih0 _ _ _ _ _ _
      | exact ih1 _ _ _ _ _ _
      | exact impl_BestShifts.mono _ _ _
      | exact impl_ClosingError.mono _ _
      | exact impl_GapsAfter.mono _ _ _
      | exact impl_LeastWorst.mono _ _ _
      | exact impl_WorstGap.mono _ _
      | exact laws_a2Sum.mono _ _
      | exact spec_A2Gaps.mono _ _
      | exact spec_A2Shifts.mono _ _ _ _
      | exact spec_GapsAfter.mono _ _ _
      | exact spec_WorstGap.mono _ _
      | exact LeO.none _
      | refine LeO.ite ?_ ?_
      | refine LeO.bind ?_ (fun _ => ?_)
set_option maxHeartbeats 8000000 in
set_option maxRecDepth 100000 in
theorem laws_FnSeams.calls (k : Nat) (A0 : Option Addr) (c0 : Nat) (l0 : List Int) (A1 : Option Addr) (c1 : Nat) (l1 : List Int) (r : Bool) (w : World) (hr0 : Kd.C (Kd.int .u8) w A0 l0.length l0) (hc0 : l0.length ≤ c0) (hr1 : Kd.C (Kd.int .u8) w A1 l1.length l1) (hc1 : l1.length ≤ c1) (h : laws_FnSeams.f k l0 l1 = some r) :
    Calls Try.prog 5 #[.slice A0 l0.length c0, .slice A1 l1.length c1] w fun e w' => e = .returned (.bool r) ∧ Below w.heap.size w w' := by
  have HR0 := Aside0.mk hr0
  have HC0 := Aside0.mk hc0
  clear hr0 hc0
  have HR1 := Aside0.mk hr1
  have HC1 := Aside0.mk hc1
  clear hr1 hc1
  have HB := Aside0.mk (Below.refl w.heap.size w)
  have H : ((laws_a2Long.f l0 l1).bind fun t193 => (if t193 = true then (some true) else ((spec_A2Gaps.f k l0).bind fun t194 => ((laws_a2At.f l1 0 5).bind fun t197 => ((impl_LeastWorst.f k t194 t197).bind fun bt198 => ((impl_BestShifts.f k t194 t197).bind fun bt200 => ((impl_GapsAfter.f k t194 bt200.1).bind fun bt204 => ((impl_WorstGap.f k bt204.1).bind fun bt208 => ((impl_ClosingError.f k t194).bind fun bt210 => ((impl_ClosingError.f k bt204.1).bind fun bt212 => ((impl_WorstGap.f k t194).bind fun bt214 => (if bt198.2 = 0 then (if bt200.2 = 0 then (if (bt200.1.length : Int) = (t194.length : Int) then (if bt204.2 = 0 then (if bt208.2 = 0 then (if bt208.1 = bt198.1 then (if bt210.2 = 0 then ((laws_a2Sum.f k t194).bind fun t216 => (if bt210.1 = t216 then (if bt212.2 = 0 then (if bt212.1 = bt210.1 then (if bt214.2 = 0 then (if bt214.1 < bt198.1 then (laws_FnSeams.j0 k l1 t194 t197 bt198.1 bt200.1 true) else (laws_FnSeams.j0 k l1 t194 t197 bt198.1 bt200.1 (decide ((wrap64 (bt198.1 * (t194.length : Int))) < (mx bt210.1 (wrap64 (-bt210.1))))))) else (laws_FnSeams.j0 k l1 t194 t197 bt198.1 bt200.1 true)) else (laws_FnSeams.j0 k l1 t194 t197 bt198.1 bt200.1 true)) else (laws_FnSeams.j0 k l1 t194 t197 bt198.1 bt200.1 true)) else (laws_FnSeams.j0 k l1 t194 t197 bt198.1 bt200.1 true))) else (laws_FnSeams.j0 k l1 t194 t197 bt198.1 bt200.1 true)) else (laws_FnSeams.j0 k l1 t194 t197 bt198.1 bt200.1 true)) else (laws_FnSeams.j0 k l1 t194 t197 bt198.1 bt200.1 true)) else (laws_FnSeams.j0 k l1 t194 t197 bt198.1 bt200.1 true)) else (laws_FnSeams.j0 k l1 t194 t197 bt198.1 bt200.1 true)) else (laws_FnSeams.j0 k l1 t194 t197 bt198.1 bt200.1 true)) else (laws_FnSeams.j0 k l1 t194 t197 bt198.1 bt200.1 true))))))))))))) = some r := h
  clear h
  replace H := Option.bind_eq_some_iff.mp H
  obtain ⟨t193, A30, H⟩ := H
  replace H : (if t193 = true then (some true) else ((spec_A2Gaps.f k l0).bind fun t194 => ((laws_a2At.f l1 0 5).bind fun t197 => ((impl_LeastWorst.f k t194 t197).bind fun bt198 => ((impl_BestShifts.f k t194 t197).bind fun bt200 => ((impl_GapsAfter.f k t194 bt200.1).bind fun bt204 => ((impl_WorstGap.f k bt204.1).bind fun bt208 => ((impl_ClosingError.f k t194).bind fun bt210 => ((impl_ClosingError.f k bt204.1).bind fun bt212 => ((impl_WorstGap.f k t194).bind fun bt214 => (if bt198.2 = 0 then (if bt200.2 = 0 then (if (bt200.1.length : Int) = (t194.length : Int) then (if bt204.2 = 0 then (if bt208.2 = 0 then (if bt208.1 = bt198.1 then (if bt210.2 = 0 then ((laws_a2Sum.f k t194).bind fun t216 => (if bt210.1 = t216 then (if bt212.2 = 0 then (if bt212.1 = bt210.1 then (if bt214.2 = 0 then (if bt214.1 < bt198.1 then (laws_FnSeams.j0 k l1 t194 t197 bt198.1 bt200.1 true) else (laws_FnSeams.j0 k l1 t194 t197 bt198.1 bt200.1 (decide ((wrap64 (bt198.1 * (t194.length : Int))) < (mx bt210.1 (wrap64 (-bt210.1))))))) else (laws_FnSeams.j0 k l1 t194 t197 bt198.1 bt200.1 true)) else (laws_FnSeams.j0 k l1 t194 t197 bt198.1 bt200.1 true)) else (laws_FnSeams.j0 k l1 t194 t197 bt198.1 bt200.1 true)) else (laws_FnSeams.j0 k l1 t194 t197 bt198.1 bt200.1 true))) else (laws_FnSeams.j0 k l1 t194 t197 bt198.1 bt200.1 true)) else (laws_FnSeams.j0 k l1 t194 t197 bt198.1 bt200.1 true)) else (laws_FnSeams.j0 k l1 t194 t197 bt198.1 bt200.1 true)) else (laws_FnSeams.j0 k l1 t194 t197 bt198.1 bt200.1 true)) else (laws_FnSeams.j0 k l1 t194 t197 bt198.1 bt200.1 true)) else (laws_FnSeams.j0 k l1 t194 t197 bt198.1 bt200.1 true)) else (laws_FnSeams.j0 k l1 t194 t197 bt198.1 bt200.1 true)))))))))))) = some r := H
  have A3 := Aside0.mk A30
  clear A30
  by_cases c4 : t193 = true
  · subst c4
    have H1 : (some true) = some r := by rw [if_pos rfl] at H; exact H
    clear H
    have H := H1
    clear H1
    obtain rfl := Option.some.inj H
    go_enter Try.func5, Try.ntmps5
    go_wp2_with (first | ((with_reducible refine gate_callee (f := 20) rfl ?_); refine goesL_ (some 28) rfl rfl Try.func20 (by kernel_rfl) rfl #[.slice A0 l0.length c0, .slice A1 l1.length c1] rfl (by (try simp only [List.map_toArray, List.map_cons, List.map_nil]); first | done | rfl | (simp only [List.length_drop, List.length_take]; rfl)) ?_; (with_reducible refine (laws_a2Long.calls _ _ l0 _ _ l1 true _ ?side1 ?side2 ?side3 ?side4 A3.out).mono ?_); (case side1 => repeat (first | exact HR0.out | (with_reducible refine Kd.C_alloc ?_ _) | (with_reducible refine Kd.C_drewN ?_ _) | (with_reducible refine Kd.C_drew ?_))); (case side2 => exact HC0.out); (case side3 => repeat (first | exact HR1.out | (with_reducible refine Kd.C_alloc ?_ _) | (with_reducible refine Kd.C_drewN ?_ _) | (with_reducible refine Kd.C_drew ?_))); (case side4 => exact HC1.out); rintro e w' ⟨rfl, ⟨nd, rfl⟩⟩; refine ⟨_, rfl, ?_⟩))
    go_ret
    exact ⟨by first | rfl | (simp [errW_none, errW_some] <;> rfl) | (simp [*, errW_none, errW_some] <;> rfl), by repeat (first | (with_reducible first | exact HB.out | apply below_alloc | apply pw_below_drewN | apply below_drew1) | exact HB.out)⟩
  · replace c4 := Bool.eq_false_iff.mpr c4
    subst c4
    have H1 : ((spec_A2Gaps.f k l0).bind fun t194 => ((laws_a2At.f l1 0 5).bind fun t197 => ((impl_LeastWorst.f k t194 t197).bind fun bt198 => ((impl_BestShifts.f k t194 t197).bind fun bt200 => ((impl_GapsAfter.f k t194 bt200.1).bind fun bt204 => ((impl_WorstGap.f k bt204.1).bind fun bt208 => ((impl_ClosingError.f k t194).bind fun bt210 => ((impl_ClosingError.f k bt204.1).bind fun bt212 => ((impl_WorstGap.f k t194).bind fun bt214 => (if bt198.2 = 0 then (if bt200.2 = 0 then (if (bt200.1.length : Int) = (t194.length : Int) then (if bt204.2 = 0 then (if bt208.2 = 0 then (if bt208.1 = bt198.1 then (if bt210.2 = 0 then ((laws_a2Sum.f k t194).bind fun t216 => (if bt210.1 = t216 then (if bt212.2 = 0 then (if bt212.1 = bt210.1 then (if bt214.2 = 0 then (if bt214.1 < bt198.1 then (laws_FnSeams.j0 k l1 t194 t197 bt198.1 bt200.1 true) else (laws_FnSeams.j0 k l1 t194 t197 bt198.1 bt200.1 (decide ((wrap64 (bt198.1 * (t194.length : Int))) < (mx bt210.1 (wrap64 (-bt210.1))))))) else (laws_FnSeams.j0 k l1 t194 t197 bt198.1 bt200.1 true)) else (laws_FnSeams.j0 k l1 t194 t197 bt198.1 bt200.1 true)) else (laws_FnSeams.j0 k l1 t194 t197 bt198.1 bt200.1 true)) else (laws_FnSeams.j0 k l1 t194 t197 bt198.1 bt200.1 true))) else (laws_FnSeams.j0 k l1 t194 t197 bt198.1 bt200.1 true)) else (laws_FnSeams.j0 k l1 t194 t197 bt198.1 bt200.1 true)) else (laws_FnSeams.j0 k l1 t194 t197 bt198.1 bt200.1 true)) else (laws_FnSeams.j0 k l1 t194 t197 bt198.1 bt200.1 true)) else (laws_FnSeams.j0 k l1 t194 t197 bt198.1 bt200.1 true)) else (laws_FnSeams.j0 k l1 t194 t197 bt198.1 bt200.1 true)) else (laws_FnSeams.j0 k l1 t194 t197 bt198.1 bt200.1 true))))))))))) = some r := by rw [if_neg (show ¬ (false = true) by decide)] at H; exact H
    clear H
    have H := H1
    clear H1
    replace H := Option.bind_eq_some_iff.mp H
    obtain ⟨t194, A50, H⟩ := H
    replace H : ((laws_a2At.f l1 0 5).bind fun t197 => ((impl_LeastWorst.f k t194 t197).bind fun bt198 => ((impl_BestShifts.f k t194 t197).bind fun bt200 => ((impl_GapsAfter.f k t194 bt200.1).bind fun bt204 => ((impl_WorstGap.f k bt204.1).bind fun bt208 => ((impl_ClosingError.f k t194).bind fun bt210 => ((impl_ClosingError.f k bt204.1).bind fun bt212 => ((impl_WorstGap.f k t194).bind fun bt214 => (if bt198.2 = 0 then (if bt200.2 = 0 then (if (bt200.1.length : Int) = (t194.length : Int) then (if bt204.2 = 0 then (if bt208.2 = 0 then (if bt208.1 = bt198.1 then (if bt210.2 = 0 then ((laws_a2Sum.f k t194).bind fun t216 => (if bt210.1 = t216 then (if bt212.2 = 0 then (if bt212.1 = bt210.1 then (if bt214.2 = 0 then (if bt214.1 < bt198.1 then (laws_FnSeams.j0 k l1 t194 t197 bt198.1 bt200.1 true) else (laws_FnSeams.j0 k l1 t194 t197 bt198.1 bt200.1 (decide ((wrap64 (bt198.1 * (t194.length : Int))) < (mx bt210.1 (wrap64 (-bt210.1))))))) else (laws_FnSeams.j0 k l1 t194 t197 bt198.1 bt200.1 true)) else (laws_FnSeams.j0 k l1 t194 t197 bt198.1 bt200.1 true)) else (laws_FnSeams.j0 k l1 t194 t197 bt198.1 bt200.1 true)) else (laws_FnSeams.j0 k l1 t194 t197 bt198.1 bt200.1 true))) else (laws_FnSeams.j0 k l1 t194 t197 bt198.1 bt200.1 true)) else (laws_FnSeams.j0 k l1 t194 t197 bt198.1 bt200.1 true)) else (laws_FnSeams.j0 k l1 t194 t197 bt198.1 bt200.1 true)) else (laws_FnSeams.j0 k l1 t194 t197 bt198.1 bt200.1 true)) else (laws_FnSeams.j0 k l1 t194 t197 bt198.1 bt200.1 true)) else (laws_FnSeams.j0 k l1 t194 t197 bt198.1 bt200.1 true)) else (laws_FnSeams.j0 k l1 t194 t197 bt198.1 bt200.1 true)))))))))) = some r := H
    have A5 := Aside0.mk A50
    clear A50
    replace H := Option.bind_eq_some_iff.mp H
    obtain ⟨t197, A60, H⟩ := H
    replace H : ((impl_LeastWorst.f k t194 t197).bind fun bt198 => ((impl_BestShifts.f k t194 t197).bind fun bt200 => ((impl_GapsAfter.f k t194 bt200.1).bind fun bt204 => ((impl_WorstGap.f k bt204.1).bind fun bt208 => ((impl_ClosingError.f k t194).bind fun bt210 => ((impl_ClosingError.f k bt204.1).bind fun bt212 => ((impl_WorstGap.f k t194).bind fun bt214 => (if bt198.2 = 0 then (if bt200.2 = 0 then (if (bt200.1.length : Int) = (t194.length : Int) then (if bt204.2 = 0 then (if bt208.2 = 0 then (if bt208.1 = bt198.1 then (if bt210.2 = 0 then ((laws_a2Sum.f k t194).bind fun t216 => (if bt210.1 = t216 then (if bt212.2 = 0 then (if bt212.1 = bt210.1 then (if bt214.2 = 0 then (if bt214.1 < bt198.1 then (laws_FnSeams.j0 k l1 t194 t197 bt198.1 bt200.1 true) else (laws_FnSeams.j0 k l1 t194 t197 bt198.1 bt200.1 (decide ((wrap64 (bt198.1 * (t194.length : Int))) < (mx bt210.1 (wrap64 (-bt210.1))))))) else (laws_FnSeams.j0 k l1 t194 t197 bt198.1 bt200.1 true)) else (laws_FnSeams.j0 k l1 t194 t197 bt198.1 bt200.1 true)) else (laws_FnSeams.j0 k l1 t194 t197 bt198.1 bt200.1 true)) else (laws_FnSeams.j0 k l1 t194 t197 bt198.1 bt200.1 true))) else (laws_FnSeams.j0 k l1 t194 t197 bt198.1 bt200.1 true)) else (laws_FnSeams.j0 k l1 t194 t197 bt198.1 bt200.1 true)) else (laws_FnSeams.j0 k l1 t194 t197 bt198.1 bt200.1 true)) else (laws_FnSeams.j0 k l1 t194 t197 bt198.1 bt200.1 true)) else (laws_FnSeams.j0 k l1 t194 t197 bt198.1 bt200.1 true)) else (laws_FnSeams.j0 k l1 t194 t197 bt198.1 bt200.1 true)) else (laws_FnSeams.j0 k l1 t194 t197 bt198.1 bt200.1 true))))))))) = some r := H
    have A6 := Aside0.mk A60
    clear A60
    replace H := Option.bind_eq_some_iff.mp H
    obtain ⟨⟨t198, t199⟩, A70, H⟩ := H
    replace H : ((impl_BestShifts.f k t194 t197).bind fun bt200 => ((impl_GapsAfter.f k t194 bt200.1).bind fun bt204 => ((impl_WorstGap.f k bt204.1).bind fun bt208 => ((impl_ClosingError.f k t194).bind fun bt210 => ((impl_ClosingError.f k bt204.1).bind fun bt212 => ((impl_WorstGap.f k t194).bind fun bt214 => (if t199 = 0 then (if bt200.2 = 0 then (if (bt200.1.length : Int) = (t194.length : Int) then (if bt204.2 = 0 then (if bt208.2 = 0 then (if bt208.1 = t198 then (if bt210.2 = 0 then ((laws_a2Sum.f k t194).bind fun t216 => (if bt210.1 = t216 then (if bt212.2 = 0 then (if bt212.1 = bt210.1 then (if bt214.2 = 0 then (if bt214.1 < t198 then (laws_FnSeams.j0 k l1 t194 t197 t198 bt200.1 true) else (laws_FnSeams.j0 k l1 t194 t197 t198 bt200.1 (decide ((wrap64 (t198 * (t194.length : Int))) < (mx bt210.1 (wrap64 (-bt210.1))))))) else (laws_FnSeams.j0 k l1 t194 t197 t198 bt200.1 true)) else (laws_FnSeams.j0 k l1 t194 t197 t198 bt200.1 true)) else (laws_FnSeams.j0 k l1 t194 t197 t198 bt200.1 true)) else (laws_FnSeams.j0 k l1 t194 t197 t198 bt200.1 true))) else (laws_FnSeams.j0 k l1 t194 t197 t198 bt200.1 true)) else (laws_FnSeams.j0 k l1 t194 t197 t198 bt200.1 true)) else (laws_FnSeams.j0 k l1 t194 t197 t198 bt200.1 true)) else (laws_FnSeams.j0 k l1 t194 t197 t198 bt200.1 true)) else (laws_FnSeams.j0 k l1 t194 t197 t198 bt200.1 true)) else (laws_FnSeams.j0 k l1 t194 t197 t198 bt200.1 true)) else (laws_FnSeams.j0 k l1 t194 t197 t198 bt200.1 true)))))))) = some r := H
    have A7 := Aside0.mk A70
    clear A70
    replace H := Option.bind_eq_some_iff.mp H
    obtain ⟨⟨t200, t201⟩, A80, H⟩ := H
    replace H : ((impl_GapsAfter.f k t194 t200).bind fun bt204 => ((impl_WorstGap.f k bt204.1).bind fun bt208 => ((impl_ClosingError.f k t194).bind fun bt210 => ((impl_ClosingError.f k bt204.1).bind fun bt212 => ((impl_WorstGap.f k t194).bind fun bt214 => (if t199 = 0 then (if t201 = 0 then (if (t200.length : Int) = (t194.length : Int) then (if bt204.2 = 0 then (if bt208.2 = 0 then (if bt208.1 = t198 then (if bt210.2 = 0 then ((laws_a2Sum.f k t194).bind fun t216 => (if bt210.1 = t216 then (if bt212.2 = 0 then (if bt212.1 = bt210.1 then (if bt214.2 = 0 then (if bt214.1 < t198 then (laws_FnSeams.j0 k l1 t194 t197 t198 t200 true) else (laws_FnSeams.j0 k l1 t194 t197 t198 t200 (decide ((wrap64 (t198 * (t194.length : Int))) < (mx bt210.1 (wrap64 (-bt210.1))))))) else (laws_FnSeams.j0 k l1 t194 t197 t198 t200 true)) else (laws_FnSeams.j0 k l1 t194 t197 t198 t200 true)) else (laws_FnSeams.j0 k l1 t194 t197 t198 t200 true)) else (laws_FnSeams.j0 k l1 t194 t197 t198 t200 true))) else (laws_FnSeams.j0 k l1 t194 t197 t198 t200 true)) else (laws_FnSeams.j0 k l1 t194 t197 t198 t200 true)) else (laws_FnSeams.j0 k l1 t194 t197 t198 t200 true)) else (laws_FnSeams.j0 k l1 t194 t197 t198 t200 true)) else (laws_FnSeams.j0 k l1 t194 t197 t198 t200 true)) else (laws_FnSeams.j0 k l1 t194 t197 t198 t200 true)) else (laws_FnSeams.j0 k l1 t194 t197 t198 t200 true))))))) = some r := H
    have A8 := Aside0.mk A80
    clear A80
    replace H := Option.bind_eq_some_iff.mp H
    obtain ⟨⟨t204, t205⟩, A90, H⟩ := H
    replace H : ((impl_WorstGap.f k t204).bind fun bt208 => ((impl_ClosingError.f k t194).bind fun bt210 => ((impl_ClosingError.f k t204).bind fun bt212 => ((impl_WorstGap.f k t194).bind fun bt214 => (if t199 = 0 then (if t201 = 0 then (if (t200.length : Int) = (t194.length : Int) then (if t205 = 0 then (if bt208.2 = 0 then (if bt208.1 = t198 then (if bt210.2 = 0 then ((laws_a2Sum.f k t194).bind fun t216 => (if bt210.1 = t216 then (if bt212.2 = 0 then (if bt212.1 = bt210.1 then (if bt214.2 = 0 then (if bt214.1 < t198 then (laws_FnSeams.j0 k l1 t194 t197 t198 t200 true) else (laws_FnSeams.j0 k l1 t194 t197 t198 t200 (decide ((wrap64 (t198 * (t194.length : Int))) < (mx bt210.1 (wrap64 (-bt210.1))))))) else (laws_FnSeams.j0 k l1 t194 t197 t198 t200 true)) else (laws_FnSeams.j0 k l1 t194 t197 t198 t200 true)) else (laws_FnSeams.j0 k l1 t194 t197 t198 t200 true)) else (laws_FnSeams.j0 k l1 t194 t197 t198 t200 true))) else (laws_FnSeams.j0 k l1 t194 t197 t198 t200 true)) else (laws_FnSeams.j0 k l1 t194 t197 t198 t200 true)) else (laws_FnSeams.j0 k l1 t194 t197 t198 t200 true)) else (laws_FnSeams.j0 k l1 t194 t197 t198 t200 true)) else (laws_FnSeams.j0 k l1 t194 t197 t198 t200 true)) else (laws_FnSeams.j0 k l1 t194 t197 t198 t200 true)) else (laws_FnSeams.j0 k l1 t194 t197 t198 t200 true)))))) = some r := H
    have A9 := Aside0.mk A90
    clear A90
    replace H := Option.bind_eq_some_iff.mp H
    obtain ⟨⟨t208, t209⟩, A100, H⟩ := H
    replace H : ((impl_ClosingError.f k t194).bind fun bt210 => ((impl_ClosingError.f k t204).bind fun bt212 => ((impl_WorstGap.f k t194).bind fun bt214 => (if t199 = 0 then (if t201 = 0 then (if (t200.length : Int) = (t194.length : Int) then (if t205 = 0 then (if t209 = 0 then (if t208 = t198 then (if bt210.2 = 0 then ((laws_a2Sum.f k t194).bind fun t216 => (if bt210.1 = t216 then (if bt212.2 = 0 then (if bt212.1 = bt210.1 then (if bt214.2 = 0 then (if bt214.1 < t198 then (laws_FnSeams.j0 k l1 t194 t197 t198 t200 true) else (laws_FnSeams.j0 k l1 t194 t197 t198 t200 (decide ((wrap64 (t198 * (t194.length : Int))) < (mx bt210.1 (wrap64 (-bt210.1))))))) else (laws_FnSeams.j0 k l1 t194 t197 t198 t200 true)) else (laws_FnSeams.j0 k l1 t194 t197 t198 t200 true)) else (laws_FnSeams.j0 k l1 t194 t197 t198 t200 true)) else (laws_FnSeams.j0 k l1 t194 t197 t198 t200 true))) else (laws_FnSeams.j0 k l1 t194 t197 t198 t200 true)) else (laws_FnSeams.j0 k l1 t194 t197 t198 t200 true)) else (laws_FnSeams.j0 k l1 t194 t197 t198 t200 true)) else (laws_FnSeams.j0 k l1 t194 t197 t198 t200 true)) else (laws_FnSeams.j0 k l1 t194 t197 t198 t200 true)) else (laws_FnSeams.j0 k l1 t194 t197 t198 t200 true)) else (laws_FnSeams.j0 k l1 t194 t197 t198 t200 true))))) = some r := H
    have A10 := Aside0.mk A100
    clear A100
    replace H := Option.bind_eq_some_iff.mp H
    obtain ⟨⟨t210, t211⟩, A110, H⟩ := H
    replace H : ((impl_ClosingError.f k t204).bind fun bt212 => ((impl_WorstGap.f k t194).bind fun bt214 => (if t199 = 0 then (if t201 = 0 then (if (t200.length : Int) = (t194.length : Int) then (if t205 = 0 then (if t209 = 0 then (if t208 = t198 then (if t211 = 0 then ((laws_a2Sum.f k t194).bind fun t216 => (if t210 = t216 then (if bt212.2 = 0 then (if bt212.1 = t210 then (if bt214.2 = 0 then (if bt214.1 < t198 then (laws_FnSeams.j0 k l1 t194 t197 t198 t200 true) else (laws_FnSeams.j0 k l1 t194 t197 t198 t200 (decide ((wrap64 (t198 * (t194.length : Int))) < (mx t210 (wrap64 (-t210))))))) else (laws_FnSeams.j0 k l1 t194 t197 t198 t200 true)) else (laws_FnSeams.j0 k l1 t194 t197 t198 t200 true)) else (laws_FnSeams.j0 k l1 t194 t197 t198 t200 true)) else (laws_FnSeams.j0 k l1 t194 t197 t198 t200 true))) else (laws_FnSeams.j0 k l1 t194 t197 t198 t200 true)) else (laws_FnSeams.j0 k l1 t194 t197 t198 t200 true)) else (laws_FnSeams.j0 k l1 t194 t197 t198 t200 true)) else (laws_FnSeams.j0 k l1 t194 t197 t198 t200 true)) else (laws_FnSeams.j0 k l1 t194 t197 t198 t200 true)) else (laws_FnSeams.j0 k l1 t194 t197 t198 t200 true)) else (laws_FnSeams.j0 k l1 t194 t197 t198 t200 true)))) = some r := H
    have A11 := Aside0.mk A110
    clear A110
    replace H := Option.bind_eq_some_iff.mp H
    obtain ⟨⟨t212, t213⟩, A120, H⟩ := H
    replace H : ((impl_WorstGap.f k t194).bind fun bt214 => (if t199 = 0 then (if t201 = 0 then (if (t200.length : Int) = (t194.length : Int) then (if t205 = 0 then (if t209 = 0 then (if t208 = t198 then (if t211 = 0 then ((laws_a2Sum.f k t194).bind fun t216 => (if t210 = t216 then (if t213 = 0 then (if t212 = t210 then (if bt214.2 = 0 then (if bt214.1 < t198 then (laws_FnSeams.j0 k l1 t194 t197 t198 t200 true) else (laws_FnSeams.j0 k l1 t194 t197 t198 t200 (decide ((wrap64 (t198 * (t194.length : Int))) < (mx t210 (wrap64 (-t210))))))) else (laws_FnSeams.j0 k l1 t194 t197 t198 t200 true)) else (laws_FnSeams.j0 k l1 t194 t197 t198 t200 true)) else (laws_FnSeams.j0 k l1 t194 t197 t198 t200 true)) else (laws_FnSeams.j0 k l1 t194 t197 t198 t200 true))) else (laws_FnSeams.j0 k l1 t194 t197 t198 t200 true)) else (laws_FnSeams.j0 k l1 t194 t197 t198 t200 true)) else (laws_FnSeams.j0 k l1 t194 t197 t198 t200 true)) else (laws_FnSeams.j0 k l1 t194 t197 t198 t200 true)) else (laws_FnSeams.j0 k l1 t194 t197 t198 t200 true)) else (laws_FnSeams.j0 k l1 t194 t197 t198 t200 true)) else (laws_FnSeams.j0 k l1 t194 t197 t198 t200 true))) = some r := H
    have A12 := Aside0.mk A120
    clear A120
    replace H := Option.bind_eq_some_iff.mp H
    obtain ⟨⟨t214, t215⟩, A130, H⟩ := H
    replace H : (if t199 = 0 then (if t201 = 0 then (if (t200.length : Int) = (t194.length : Int) then (if t205 = 0 then (if t209 = 0 then (if t208 = t198 then (if t211 = 0 then ((laws_a2Sum.f k t194).bind fun t216 => (if t210 = t216 then (if t213 = 0 then (if t212 = t210 then (if t215 = 0 then (if t214 < t198 then (laws_FnSeams.j0 k l1 t194 t197 t198 t200 true) else (laws_FnSeams.j0 k l1 t194 t197 t198 t200 (decide ((wrap64 (t198 * (t194.length : Int))) < (mx t210 (wrap64 (-t210))))))) else (laws_FnSeams.j0 k l1 t194 t197 t198 t200 true)) else (laws_FnSeams.j0 k l1 t194 t197 t198 t200 true)) else (laws_FnSeams.j0 k l1 t194 t197 t198 t200 true)) else (laws_FnSeams.j0 k l1 t194 t197 t198 t200 true))) else (laws_FnSeams.j0 k l1 t194 t197 t198 t200 true)) else (laws_FnSeams.j0 k l1 t194 t197 t198 t200 true)) else (laws_FnSeams.j0 k l1 t194 t197 t198 t200 true)) else (laws_FnSeams.j0 k l1 t194 t197 t198 t200 true)) else (laws_FnSeams.j0 k l1 t194 t197 t198 t200 true)) else (laws_FnSeams.j0 k l1 t194 t197 t198 t200 true)) else (laws_FnSeams.j0 k l1 t194 t197 t198 t200 true)) = some r := H
    have A13 := Aside0.mk A130
    clear A130
    have HC14 := Aside0.mk H
    clear H
    go_enter Try.func5, Try.ntmps5
    go_upto_region 12 with (first | ((with_reducible refine gate_callee (f := 20) rfl ?_); refine goesL_ (some 28) rfl rfl Try.func20 (by kernel_rfl) rfl #[.slice A0 l0.length c0, .slice A1 l1.length c1] rfl (by (try simp only [List.map_toArray, List.map_cons, List.map_nil]); first | done | rfl | (simp only [List.length_drop, List.length_take]; rfl)) ?_; (with_reducible refine (laws_a2Long.calls _ _ l0 _ _ l1 false _ ?side1 ?side2 ?side3 ?side4 A3.out).mono ?_); (case side1 => repeat (first | exact HR0.out | (with_reducible refine Kd.C_alloc ?_ _) | (with_reducible refine Kd.C_drewN ?_ _) | (with_reducible refine Kd.C_drew ?_))); (case side2 => exact HC0.out); (case side3 => repeat (first | exact HR1.out | (with_reducible refine Kd.C_alloc ?_ _) | (with_reducible refine Kd.C_drewN ?_ _) | (with_reducible refine Kd.C_drew ?_))); (case side4 => exact HC1.out); rintro e w' ⟨rfl, ⟨nd, rfl⟩⟩; refine ⟨_, rfl, ?_⟩) | ((with_reducible refine gate_callee (f := 21) rfl ?_); refine goesL_ (some 30) rfl rfl Try.func21 (by kernel_rfl) rfl #[.slice A0 l0.length c0] rfl (by (try simp only [List.map_toArray, List.map_cons, List.map_nil]); first | done | rfl | (simp only [List.length_drop, List.length_take]; rfl)) ?_; (with_reducible refine (spec_A2Gaps.calls k _ _ l0 t194 _ ?side1 ?side2 A5.out).mono ?_); (case side1 => repeat (first | exact HR0.out | (with_reducible refine Kd.C_alloc ?_ _) | (with_reducible refine Kd.C_drewN ?_ _) | (with_reducible refine Kd.C_drew ?_))); (case side2 => exact HC0.out); rintro e w15 ⟨v195, rfl, ho0, hb⟩; refine ⟨_, rfl, ?_⟩; have n0_ := Aside0.mk (Kd.R_lower ho0 (below_size (by repeat (first | (with_reducible first | exact HB.out | apply below_alloc | apply pw_below_drewN | apply below_drew1) | exact HB.out)))); have n1_ := Aside0.mk (below_step (by repeat (first | (with_reducible first | exact HB.out | apply below_alloc | apply pw_below_drewN | apply below_drew1) | exact HB.out)) hb); clear HB; have HO196 := n0_; have HB := n1_; clear n0_ n1_; (try clear hb); (try clear hb2); (try clear hk); (try clear hi); (try clear ho0)) | ((with_reducible refine gate_callee (f := 22) rfl ?_); refine goesL_ (some 32) rfl rfl Try.func22 (by kernel_rfl) rfl #[.slice A1 l1.length c1, .int .i64 0, .int .i64 5] rfl (by (try simp only [List.map_toArray, List.map_cons, List.map_nil]); first | done | rfl | (simp only [List.length_drop, List.length_take]; rfl)) ?_; (with_reducible refine (laws_a2At.calls _ _ l1 0 5 t197 _ ?side1 ?side2 A6.out).mono ?_); (case side1 => repeat (first | exact (Kd.C_below HR1.out HB.out) | (with_reducible refine Kd.C_alloc ?_ _) | (with_reducible refine Kd.C_drewN ?_ _) | (with_reducible refine Kd.C_drew ?_))); (case side2 => exact HC1.out); rintro e w' ⟨rfl, ⟨nd, rfl⟩⟩; refine ⟨_, rfl, ?_⟩; obtain ⟨Ao16, co16, eo16⟩ := Kd.R_slice HO196.out; subst eo16) | ((with_reducible refine gate_callee (f := 23) rfl ?_); refine goesL_ (some 36) rfl rfl Try.func23 (by kernel_rfl) rfl #[.slice Ao16 t194.length co16, .int .i64 t197] rfl (by (try simp only [List.map_toArray, List.map_cons, List.map_nil]); first | done | rfl | (simp only [List.length_drop, List.length_take]; rfl)) ?_; (with_reducible refine (impl_LeastWorst.calls k _ _ t194 t197 t198 t199 _ ?side1 ?side2 A7.out).mono ?_); (case side1 => repeat (first | exact (Kd.R_reads' HO196.out).2.2 | (with_reducible refine Kd.C_alloc ?_ _) | (with_reducible refine Kd.C_drewN ?_ _) | (with_reducible refine Kd.C_drew ?_))); (case side2 => exact (Kd.R_reads' HO196.out).2.1); rintro e w17 ⟨rfl, hb⟩; refine ⟨_, rfl, ?_⟩; have n0_ := Aside0.mk (Kd.R_below (by (with_reducible repeat (first | apply Kd.R_alloc | apply Kd.R_drewN | apply Kd.R_drew)); exact HO196.out) hb); have n1_ := Aside0.mk (below_step (by repeat (first | (with_reducible first | exact HB.out | apply below_alloc | apply pw_below_drewN | apply below_drew1) | exact HB.out)) hb); clear HO196; clear HB; have HO196 := n0_; have HB := n1_; clear n0_ n1_; (try clear hb); (try clear hb2); (try clear hk); (try clear hi)) | ((with_reducible refine gate_callee (f := 24) rfl ?_); refine goesL_ (some 42) rfl rfl Try.func24 (by kernel_rfl) rfl #[.slice Ao16 t194.length co16, .int .i64 t197] rfl (by (try simp only [List.map_toArray, List.map_cons, List.map_nil]); first | done | rfl | (simp only [List.length_drop, List.length_take]; rfl)) ?_; (with_reducible refine (impl_BestShifts.calls k _ _ t194 t197 t200 t201 _ ?side1 ?side2 A8.out).mono ?_); (case side1 => repeat (first | exact (Kd.R_reads' HO196.out).2.2 | (with_reducible refine Kd.C_alloc ?_ _) | (with_reducible refine Kd.C_drewN ?_ _) | (with_reducible refine Kd.C_drew ?_))); (case side2 => exact (Kd.R_reads' HO196.out).2.1); rintro e w18 ⟨v202, rfl, ho0, hb⟩; refine ⟨_, rfl, ?_⟩; have n0_ := Aside0.mk (Kd.R_elder' (by (with_reducible repeat (first | apply Kd.R_alloc | apply Kd.R_drewN | apply Kd.R_drew)); exact HO196.out) (Kd.R_base ho0) hb); have n1_ := Aside0.mk (Kd.R_lower (Kd.R_new' ho0 (Kd.R_lt (by (with_reducible repeat (first | apply Kd.R_alloc | apply Kd.R_drewN | apply Kd.R_drew)); exact HO196.out))) (below_size (by repeat (first | (with_reducible first | exact HB.out | apply below_alloc | apply pw_below_drewN | apply below_drew1) | exact HB.out)))); have n2_ := Aside0.mk (below_step (by repeat (first | (with_reducible first | exact HB.out | apply below_alloc | apply pw_below_drewN | apply below_drew1) | exact HB.out)) hb); clear HO196; clear HB; have HO196 := n0_; have HO203 := n1_; have HB := n2_; clear n0_ n1_ n2_; (try clear hb); (try clear hb2); (try clear hk); (try clear hi); (try clear ho0); obtain ⟨Ao19, co19, eo19⟩ := Kd.R_slice HO203.out; subst eo19) | ((with_reducible refine gate_callee (f := 25) rfl ?_); refine goesL_ (some 48) rfl rfl Try.func25 (by kernel_rfl) rfl #[.slice Ao16 t194.length co16, .slice Ao19 t200.length co19] rfl (by (try simp only [List.map_toArray, List.map_cons, List.map_nil]); first | done | rfl | (simp only [List.length_drop, List.length_take]; rfl)) ?_; (with_reducible refine (impl_GapsAfter.calls k _ _ t194 _ _ t200 t204 t205 _ ?side1 ?side2 ?side3 ?side4 A9.out).mono ?_); (case side1 => repeat (first | exact (Kd.R_reads' HO196.out).2.2 | (with_reducible refine Kd.C_alloc ?_ _) | (with_reducible refine Kd.C_drewN ?_ _) | (with_reducible refine Kd.C_drew ?_))); (case side2 => exact (Kd.R_reads' HO196.out).2.1); (case side3 => repeat (first | exact (Kd.R_reads' HO203.out).2.2 | (with_reducible refine Kd.C_alloc ?_ _) | (with_reducible refine Kd.C_drewN ?_ _) | (with_reducible refine Kd.C_drew ?_))); (case side4 => exact (Kd.R_reads' HO203.out).2.1); rintro e w20 ⟨v206, rfl, ho0, hb⟩; refine ⟨_, rfl, ?_⟩; have n0_ := Aside0.mk (Kd.R_elder' (by (with_reducible repeat (first | apply Kd.R_alloc | apply Kd.R_drewN | apply Kd.R_drew)); exact HO196.out) (Kd.R_base ho0) hb); have n1_ := Aside0.mk (Kd.R_elder' (by (with_reducible repeat (first | apply Kd.R_alloc | apply Kd.R_drewN | apply Kd.R_drew)); exact HO203.out) (Kd.R_base ho0) hb); have n2_ := Aside0.mk (Kd.R_lower (Kd.R_new' (Kd.R_new' ho0 (Kd.R_lt (by (with_reducible repeat (first | apply Kd.R_alloc | apply Kd.R_drewN | apply Kd.R_drew)); exact HO196.out))) (Kd.R_lt (by (with_reducible repeat (first | apply Kd.R_alloc | apply Kd.R_drewN | apply Kd.R_drew)); exact HO203.out))) (below_size (by repeat (first | (with_reducible first | exact HB.out | apply below_alloc | apply pw_below_drewN | apply below_drew1) | exact HB.out)))); have n3_ := Aside0.mk (below_step (by repeat (first | (with_reducible first | exact HB.out | apply below_alloc | apply pw_below_drewN | apply below_drew1) | exact HB.out)) hb); clear HO196; clear HO203; clear HB; have HO196 := n0_; have HO203 := n1_; have HO207 := n2_; have HB := n3_; clear n0_ n1_ n2_ n3_; (try clear hb); (try clear hb2); (try clear hk); (try clear hi); (try clear ho0); obtain ⟨Ao21, co21, eo21⟩ := Kd.R_slice HO207.out; subst eo21) | ((with_reducible refine gate_callee (f := 26) rfl ?_); refine goesL_ (some 53) rfl rfl Try.func26 (by kernel_rfl) rfl #[.slice Ao21 t204.length co21] rfl (by (try simp only [List.map_toArray, List.map_cons, List.map_nil]); first | done | rfl | (simp only [List.length_drop, List.length_take]; rfl)) ?_; (with_reducible refine (impl_WorstGap.calls k _ _ t204 t208 t209 _ ?side1 ?side2 A10.out).mono ?_); (case side1 => repeat (first | exact (Kd.R_reads' HO207.out).2.2 | (with_reducible refine Kd.C_alloc ?_ _) | (with_reducible refine Kd.C_drewN ?_ _) | (with_reducible refine Kd.C_drew ?_))); (case side2 => exact (Kd.R_reads' HO207.out).2.1); rintro e w22 ⟨rfl, hb⟩; refine ⟨_, rfl, ?_⟩; have n0_ := Aside0.mk (Kd.R_below (by (with_reducible repeat (first | apply Kd.R_alloc | apply Kd.R_drewN | apply Kd.R_drew)); exact HO196.out) hb); have n1_ := Aside0.mk (Kd.R_below (by (with_reducible repeat (first | apply Kd.R_alloc | apply Kd.R_drewN | apply Kd.R_drew)); exact HO203.out) hb); have n2_ := Aside0.mk (Kd.R_below (by (with_reducible repeat (first | apply Kd.R_alloc | apply Kd.R_drewN | apply Kd.R_drew)); exact HO207.out) hb); have n3_ := Aside0.mk (below_step (by repeat (first | (with_reducible first | exact HB.out | apply below_alloc | apply pw_below_drewN | apply below_drew1) | exact HB.out)) hb); clear HO196; clear HO203; clear HO207; clear HB; have HO196 := n0_; have HO203 := n1_; have HO207 := n2_; have HB := n3_; clear n0_ n1_ n2_ n3_; (try clear hb); (try clear hb2); (try clear hk); (try clear hi)) | ((with_reducible refine gate_callee (f := 27) rfl ?_); refine goesL_ (some 58) rfl rfl Try.func27 (by kernel_rfl) rfl #[.slice Ao16 t194.length co16] rfl (by (try simp only [List.map_toArray, List.map_cons, List.map_nil]); first | done | rfl | (simp only [List.length_drop, List.length_take]; rfl)) ?_; (with_reducible refine (impl_ClosingError.calls k _ _ t194 t210 t211 _ ?side1 ?side2 A11.out).mono ?_); (case side1 => repeat (first | exact (Kd.R_reads' HO196.out).2.2 | (with_reducible refine Kd.C_alloc ?_ _) | (with_reducible refine Kd.C_drewN ?_ _) | (with_reducible refine Kd.C_drew ?_))); (case side2 => exact (Kd.R_reads' HO196.out).2.1); rintro e w23 ⟨rfl, hb⟩; refine ⟨_, rfl, ?_⟩; have n0_ := Aside0.mk (Kd.R_below (by (with_reducible repeat (first | apply Kd.R_alloc | apply Kd.R_drewN | apply Kd.R_drew)); exact HO196.out) hb); have n1_ := Aside0.mk (Kd.R_below (by (with_reducible repeat (first | apply Kd.R_alloc | apply Kd.R_drewN | apply Kd.R_drew)); exact HO203.out) hb); have n2_ := Aside0.mk (Kd.R_below (by (with_reducible repeat (first | apply Kd.R_alloc | apply Kd.R_drewN | apply Kd.R_drew)); exact HO207.out) hb); have n3_ := Aside0.mk (below_step (by repeat (first | (with_reducible first | exact HB.out | apply below_alloc | apply pw_below_drewN | apply below_drew1) | exact HB.out)) hb); clear HO196; clear HO203; clear HO207; clear HB; have HO196 := n0_; have HO203 := n1_; have HO207 := n2_; have HB := n3_; clear n0_ n1_ n2_ n3_; (try clear hb); (try clear hb2); (try clear hk); (try clear hi)) | ((with_reducible refine gate_callee (f := 27) rfl ?_); refine goesL_ (some 63) rfl rfl Try.func27 (by kernel_rfl) rfl #[.slice Ao21 t204.length co21] rfl (by (try simp only [List.map_toArray, List.map_cons, List.map_nil]); first | done | rfl | (simp only [List.length_drop, List.length_take]; rfl)) ?_; (with_reducible refine (impl_ClosingError.calls k _ _ t204 t212 t213 _ ?side1 ?side2 A12.out).mono ?_); (case side1 => repeat (first | exact (Kd.R_reads' HO207.out).2.2 | (with_reducible refine Kd.C_alloc ?_ _) | (with_reducible refine Kd.C_drewN ?_ _) | (with_reducible refine Kd.C_drew ?_))); (case side2 => exact (Kd.R_reads' HO207.out).2.1); rintro e w24 ⟨rfl, hb⟩; refine ⟨_, rfl, ?_⟩; have n0_ := Aside0.mk (Kd.R_below (by (with_reducible repeat (first | apply Kd.R_alloc | apply Kd.R_drewN | apply Kd.R_drew)); exact HO196.out) hb); have n1_ := Aside0.mk (Kd.R_below (by (with_reducible repeat (first | apply Kd.R_alloc | apply Kd.R_drewN | apply Kd.R_drew)); exact HO203.out) hb); have n2_ := Aside0.mk (Kd.R_below (by (with_reducible repeat (first | apply Kd.R_alloc | apply Kd.R_drewN | apply Kd.R_drew)); exact HO207.out) hb); have n3_ := Aside0.mk (below_step (by repeat (first | (with_reducible first | exact HB.out | apply below_alloc | apply pw_below_drewN | apply below_drew1) | exact HB.out)) hb); clear HO196; clear HO203; clear HO207; clear HB; have HO196 := n0_; have HO203 := n1_; have HO207 := n2_; have HB := n3_; clear n0_ n1_ n2_ n3_; (try clear hb); (try clear hb2); (try clear hk); (try clear hi)) | ((with_reducible refine gate_callee (f := 26) rfl ?_); refine goesL_ (some 68) rfl rfl Try.func26 (by kernel_rfl) rfl #[.slice Ao16 t194.length co16] rfl (by (try simp only [List.map_toArray, List.map_cons, List.map_nil]); first | done | rfl | (simp only [List.length_drop, List.length_take]; rfl)) ?_; (with_reducible refine (impl_WorstGap.calls k _ _ t194 t214 t215 _ ?side1 ?side2 A13.out).mono ?_); (case side1 => repeat (first | exact (Kd.R_reads' HO196.out).2.2 | (with_reducible refine Kd.C_alloc ?_ _) | (with_reducible refine Kd.C_drewN ?_ _) | (with_reducible refine Kd.C_drew ?_))); (case side2 => exact (Kd.R_reads' HO196.out).2.1); rintro e w25 ⟨rfl, hb⟩; refine ⟨_, rfl, ?_⟩; have n0_ := Aside0.mk (Kd.R_below (by (with_reducible repeat (first | apply Kd.R_alloc | apply Kd.R_drewN | apply Kd.R_drew)); exact HO196.out) hb); have n1_ := Aside0.mk (Kd.R_below (by (with_reducible repeat (first | apply Kd.R_alloc | apply Kd.R_drewN | apply Kd.R_drew)); exact HO203.out) hb); have n2_ := Aside0.mk (Kd.R_below (by (with_reducible repeat (first | apply Kd.R_alloc | apply Kd.R_drewN | apply Kd.R_drew)); exact HO207.out) hb); have n3_ := Aside0.mk (below_step (by repeat (first | (with_reducible first | exact HB.out | apply below_alloc | apply pw_below_drewN | apply below_drew1) | exact HB.out)) hb); clear HO196; clear HO203; clear HO207; clear HB; have HO196 := n0_; have HO203 := n1_; have HO207 := n2_; have HB := n3_; clear n0_ n1_ n2_ n3_; (try clear hb); (try clear hb2); (try clear hk); (try clear hi)))
    (try simp only [Act.put, List.setIfInBounds_toArray, List.set_cons_zero, List.set_cons_succ])
    go_cut [135] (fun v135 wc => ∃ (kq : Nat) (x135_13 : Bool), v135 = .bool x135_13 ∧ Aside0 (laws_FnSeams.j0 kq l1 t194 t197 t198 t200 x135_13 = some r) ∧ Aside0 (kq ≤ k) ∧ Aside0 (Kd.R (Kd.int .i64) 2 wc w.heap.size (fun k_ => some k_ ≠ ((.slice Ao19 t200.length co19) : Value).ownBlock) (.slice Ao16 t194.length co16) t194) ∧ Aside0 (Kd.R (Kd.int .i64) 2 wc w.heap.size (fun k_ => some k_ ≠ ((.slice Ao16 t194.length co16) : Value).ownBlock) (.slice Ao19 t200.length co19) t200) ∧ Aside0 (Below w.heap.size w wc))
    case first =>
      have H := HC14.out
      clear HC14
      by_cases c26 : t199 = 0
      · rw [if_pos c26] at H
        have c26b0 : (t199 == 0) = true := beq_iff_eq.mpr c26
        have c26b1 : (t199 != 0) = false := bne_eq_false_iff_eq.mpr c26
        clear c26
        (first | rw [c26b0] | (simp only [i64_w, i32_w]; rw [c26b0]) | skip)
        by_cases c27 : t201 = 0
        · rw [if_pos c27] at H
          have c27b0 : (t201 == 0) = true := beq_iff_eq.mpr c27
          have c27b1 : (t201 != 0) = false := bne_eq_false_iff_eq.mpr c27
          clear c27
          by_cases c28 : (t200.length : Int) = (t194.length : Int)
          · rw [if_pos c28] at H
            have c28b0 : ((t200.length : Int) == (t194.length : Int)) = true := beq_iff_eq.mpr c28
            have c28b1 : ((t200.length : Int) != (t194.length : Int)) = false := bne_eq_false_iff_eq.mpr c28
            have c28b2 : (t200.length == t194.length) = true := by first | simpa using c28 | (simp at c28 ⊢; omega)
            clear c28
            by_cases c29 : t205 = 0
            · rw [if_pos c29] at H
              have c29b0 : (t205 == 0) = true := beq_iff_eq.mpr c29
              have c29b1 : (t205 != 0) = false := bne_eq_false_iff_eq.mpr c29
              clear c29
              by_cases c30 : t209 = 0
              · rw [if_pos c30] at H
                have c30b0 : (t209 == 0) = true := beq_iff_eq.mpr c30
                have c30b1 : (t209 != 0) = false := bne_eq_false_iff_eq.mpr c30
                clear c30
                by_cases c31 : t208 = t198
                · rw [if_pos c31] at H
                  have c31b0 : (t208 == t198) = true := beq_iff_eq.mpr c31
                  have c31b1 : (t208 != t198) = false := bne_eq_false_iff_eq.mpr c31
                  clear c31
                  by_cases c32 : t211 = 0
                  · rw [if_pos c32] at H
                    have c32b0 : (t211 == 0) = true := beq_iff_eq.mpr c32
                    have c32b1 : (t211 != 0) = false := bne_eq_false_iff_eq.mpr c32
                    clear c32
                    replace H := Option.bind_eq_some_iff.mp H
                    obtain ⟨t216, A330, H⟩ := H
                    replace H : (if t210 = t216 then (if t213 = 0 then (if t212 = t210 then (if t215 = 0 then (if t214 < t198 then (laws_FnSeams.j0 k l1 t194 t197 t198 t200 true) else (laws_FnSeams.j0 k l1 t194 t197 t198 t200 (decide ((wrap64 (t198 * (t194.length : Int))) < (mx t210 (wrap64 (-t210))))))) else (laws_FnSeams.j0 k l1 t194 t197 t198 t200 true)) else (laws_FnSeams.j0 k l1 t194 t197 t198 t200 true)) else (laws_FnSeams.j0 k l1 t194 t197 t198 t200 true)) else (laws_FnSeams.j0 k l1 t194 t197 t198 t200 true)) = some r := H
                    have A33 := Aside0.mk A330
                    clear A330
                    by_cases c34 : t210 = t216
                    · rw [if_pos c34] at H
                      have c34b0 : (t210 == t216) = true := beq_iff_eq.mpr c34
                      have c34b1 : (t210 != t216) = false := bne_eq_false_iff_eq.mpr c34
                      clear c34
                      by_cases c35 : t213 = 0
                      · rw [if_pos c35] at H
                        have c35b0 : (t213 == 0) = true := beq_iff_eq.mpr c35
                        have c35b1 : (t213 != 0) = false := bne_eq_false_iff_eq.mpr c35
                        clear c35
                        by_cases c36 : t212 = t210
                        · rw [if_pos c36] at H
                          have c36b0 : (t212 == t210) = true := beq_iff_eq.mpr c36
                          have c36b1 : (t212 != t210) = false := bne_eq_false_iff_eq.mpr c36
                          clear c36
                          by_cases c37 : t215 = 0
                          · rw [if_pos c37] at H
                            have c37b0 : (t215 == 0) = true := beq_iff_eq.mpr c37
                            have c37b1 : (t215 != 0) = false := bne_eq_false_iff_eq.mpr c37
                            clear c37
                            by_cases c38 : t214 < t198
                            · rw [if_pos c38] at H
                              have c38b0 : decide (t214 < t198) = true := decide_eq_true c38
                              clear c38
                              have H' := Aside0.mk H
                              clear H
                              go_wp2_with (first | (go_at_call 28; (with_reducible refine (laws_a2Sum.calls k _ _ t194 t216 _ ?side1 ?side2 A33.out).mono ?_); (case side1 => repeat (first | exact (Kd.R_reads' HO196.out).2.2 | (with_reducible refine Kd.C_alloc ?_ _) | (with_reducible refine Kd.C_drewN ?_ _) | (with_reducible refine Kd.C_drew ?_))); (case side2 => exact (Kd.R_reads' HO196.out).2.1); rintro e w' ⟨rfl, ⟨nd, rfl⟩⟩))
                              go_meet
                              case rel => exact ⟨_, (true), (by first | rfl | (simp; done) | (simp [*]; done)), H', ⟨by first | omega | exact Nat.le_refl _⟩, ⟨by (with_reducible repeat (first | apply Kd.R_alloc | apply Kd.R_drewN | apply Kd.R_drew)); exact Kd.R_mono HO196.out (fun _ hk => hk.1.2)⟩, ⟨by (with_reducible repeat (first | apply Kd.R_alloc | apply Kd.R_drewN | apply Kd.R_drew)); exact Kd.R_mono HO203.out (fun _ hk => hk.1.2)⟩, ⟨by repeat (first | (with_reducible first | exact HB.out | apply below_alloc | apply pw_below_drewN | apply below_drew1) | exact HB.out)⟩⟩
                            · rw [if_neg c38] at H
                              have c38b0 : decide (t214 < t198) = false := decide_eq_false c38
                              clear c38
                              obtain ⟨ji39, hji39⟩ : ∃ j_ : Int, (mx t210 (wrap64 (-t210))) = j_ := ⟨_, rfl⟩
                              replace H : (laws_FnSeams.j0 k l1 t194 t197 t198 t200 (decide ((wrap64 (t198 * (t194.length : Int))) < (ji39)))) = some r := by first | (rw [hji39] at H; exact H) | (simp only [hji39] at H ⊢; exact H)
                              (try rw [hji39] at A33)
                              have hji39_ : (if t210 < (wrap64 (-t210)) then (wrap64 (-t210)) else t210) = ji39 := hji39
                              have H' := Aside0.mk H
                              clear H
                              go_wp2_with (first | (go_at_call 28; (with_reducible refine (laws_a2Sum.calls k _ _ t194 t216 _ ?side1 ?side2 A33.out).mono ?_); (case side1 => repeat (first | exact (Kd.R_reads' HO196.out).2.2 | (with_reducible refine Kd.C_alloc ?_ _) | (with_reducible refine Kd.C_drewN ?_ _) | (with_reducible refine Kd.C_drew ?_))); (case side2 => exact (Kd.R_reads' HO196.out).2.1); rintro e w' ⟨rfl, ⟨nd, rfl⟩⟩))
                              go_meet
                              case rel => exact ⟨_, (decide ((wrap64 (t198 * (t194.length : Int))) < (ji39))), (by first | rfl | (simp; done) | (simp only [← hji39] <;> (first | rfl | simp)) | (simp [*]; done)), H', ⟨by first | omega | exact Nat.le_refl _⟩, ⟨by (with_reducible repeat (first | apply Kd.R_alloc | apply Kd.R_drewN | apply Kd.R_drew)); exact Kd.R_mono HO196.out (fun _ hk => hk.1.2)⟩, ⟨by (with_reducible repeat (first | apply Kd.R_alloc | apply Kd.R_drewN | apply Kd.R_drew)); exact Kd.R_mono HO203.out (fun _ hk => hk.1.2)⟩, ⟨by repeat (first | (with_reducible first | exact HB.out | apply below_alloc | apply pw_below_drewN | apply below_drew1) | exact HB.out)⟩⟩
                          · rw [if_neg c37] at H
                            have c37b0 : (t215 == 0) = false := beq_eq_false_iff_ne.mpr c37
                            have c37b1 : (t215 != 0) = true := bne_iff_ne.mpr c37
                            have H' := Aside0.mk H
                            clear H
                            go_wp2_with (first | (go_at_call 28; (with_reducible refine (laws_a2Sum.calls k _ _ t194 t216 _ ?side1 ?side2 A33.out).mono ?_); (case side1 => repeat (first | exact (Kd.R_reads' HO196.out).2.2 | (with_reducible refine Kd.C_alloc ?_ _) | (with_reducible refine Kd.C_drewN ?_ _) | (with_reducible refine Kd.C_drew ?_))); (case side2 => exact (Kd.R_reads' HO196.out).2.1); rintro e w' ⟨rfl, ⟨nd, rfl⟩⟩))
                            go_meet
                            case rel => exact ⟨_, (true), (by first | rfl | (simp; done) | (simp [*]; done)), H', ⟨by first | omega | exact Nat.le_refl _⟩, ⟨by (with_reducible repeat (first | apply Kd.R_alloc | apply Kd.R_drewN | apply Kd.R_drew)); exact Kd.R_mono HO196.out (fun _ hk => hk.1.2)⟩, ⟨by (with_reducible repeat (first | apply Kd.R_alloc | apply Kd.R_drewN | apply Kd.R_drew)); exact Kd.R_mono HO203.out (fun _ hk => hk.1.2)⟩, ⟨by repeat (first | (with_reducible first | exact HB.out | apply below_alloc | apply pw_below_drewN | apply below_drew1) | exact HB.out)⟩⟩
                        · rw [if_neg c36] at H
                          have c36b0 : (t212 == t210) = false := beq_eq_false_iff_ne.mpr c36
                          have c36b1 : (t212 != t210) = true := bne_iff_ne.mpr c36
                          have H' := Aside0.mk H
                          clear H
                          go_wp2_with (first | (go_at_call 28; (with_reducible refine (laws_a2Sum.calls k _ _ t194 t216 _ ?side1 ?side2 A33.out).mono ?_); (case side1 => repeat (first | exact (Kd.R_reads' HO196.out).2.2 | (with_reducible refine Kd.C_alloc ?_ _) | (with_reducible refine Kd.C_drewN ?_ _) | (with_reducible refine Kd.C_drew ?_))); (case side2 => exact (Kd.R_reads' HO196.out).2.1); rintro e w' ⟨rfl, ⟨nd, rfl⟩⟩))
                          go_meet
                          case rel => exact ⟨_, (true), (by first | rfl | (simp; done) | (simp [*]; done)), H', ⟨by first | omega | exact Nat.le_refl _⟩, ⟨by (with_reducible repeat (first | apply Kd.R_alloc | apply Kd.R_drewN | apply Kd.R_drew)); exact Kd.R_mono HO196.out (fun _ hk => hk.1.2)⟩, ⟨by (with_reducible repeat (first | apply Kd.R_alloc | apply Kd.R_drewN | apply Kd.R_drew)); exact Kd.R_mono HO203.out (fun _ hk => hk.1.2)⟩, ⟨by repeat (first | (with_reducible first | exact HB.out | apply below_alloc | apply pw_below_drewN | apply below_drew1) | exact HB.out)⟩⟩
                      · rw [if_neg c35] at H
                        have c35b0 : (t213 == 0) = false := beq_eq_false_iff_ne.mpr c35
                        have c35b1 : (t213 != 0) = true := bne_iff_ne.mpr c35
                        have H' := Aside0.mk H
                        clear H
                        go_wp2_with (first | (go_at_call 28; (with_reducible refine (laws_a2Sum.calls k _ _ t194 t216 _ ?side1 ?side2 A33.out).mono ?_); (case side1 => repeat (first | exact (Kd.R_reads' HO196.out).2.2 | (with_reducible refine Kd.C_alloc ?_ _) | (with_reducible refine Kd.C_drewN ?_ _) | (with_reducible refine Kd.C_drew ?_))); (case side2 => exact (Kd.R_reads' HO196.out).2.1); rintro e w' ⟨rfl, ⟨nd, rfl⟩⟩))
                        go_meet
                        case rel => exact ⟨_, (true), (by first | rfl | (simp; done) | (simp [*]; done)), H', ⟨by first | omega | exact Nat.le_refl _⟩, ⟨by (with_reducible repeat (first | apply Kd.R_alloc | apply Kd.R_drewN | apply Kd.R_drew)); exact Kd.R_mono HO196.out (fun _ hk => hk.1.2)⟩, ⟨by (with_reducible repeat (first | apply Kd.R_alloc | apply Kd.R_drewN | apply Kd.R_drew)); exact Kd.R_mono HO203.out (fun _ hk => hk.1.2)⟩, ⟨by repeat (first | (with_reducible first | exact HB.out | apply below_alloc | apply pw_below_drewN | apply below_drew1) | exact HB.out)⟩⟩
                    · rw [if_neg c34] at H
                      have c34b0 : (t210 == t216) = false := beq_eq_false_iff_ne.mpr c34
                      have c34b1 : (t210 != t216) = true := bne_iff_ne.mpr c34
                      have H' := Aside0.mk H
                      clear H
                      go_wp2_with (first | (go_at_call 28; (with_reducible refine (laws_a2Sum.calls k _ _ t194 t216 _ ?side1 ?side2 A33.out).mono ?_); (case side1 => repeat (first | exact (Kd.R_reads' HO196.out).2.2 | (with_reducible refine Kd.C_alloc ?_ _) | (with_reducible refine Kd.C_drewN ?_ _) | (with_reducible refine Kd.C_drew ?_))); (case side2 => exact (Kd.R_reads' HO196.out).2.1); rintro e w' ⟨rfl, ⟨nd, rfl⟩⟩))
                      go_meet
                      case rel => exact ⟨_, (true), (by first | rfl | (simp; done) | (simp [*]; done)), H', ⟨by first | omega | exact Nat.le_refl _⟩, ⟨by (with_reducible repeat (first | apply Kd.R_alloc | apply Kd.R_drewN | apply Kd.R_drew)); exact Kd.R_mono HO196.out (fun _ hk => hk.1.2)⟩, ⟨by (with_reducible repeat (first | apply Kd.R_alloc | apply Kd.R_drewN | apply Kd.R_drew)); exact Kd.R_mono HO203.out (fun _ hk => hk.1.2)⟩, ⟨by repeat (first | (with_reducible first | exact HB.out | apply below_alloc | apply pw_below_drewN | apply below_drew1) | exact HB.out)⟩⟩
                  · rw [if_neg c32] at H
                    have c32b0 : (t211 == 0) = false := beq_eq_false_iff_ne.mpr c32
                    have c32b1 : (t211 != 0) = true := bne_iff_ne.mpr c32
                    have H' := Aside0.mk H
                    clear H
                    go_wp2
                    go_meet
                    case rel => exact ⟨_, (true), (by first | rfl | (simp; done) | (simp [*]; done)), H', ⟨by first | omega | exact Nat.le_refl _⟩, ⟨by (with_reducible repeat (first | apply Kd.R_alloc | apply Kd.R_drewN | apply Kd.R_drew)); exact Kd.R_mono HO196.out (fun _ hk => hk.1.2)⟩, ⟨by (with_reducible repeat (first | apply Kd.R_alloc | apply Kd.R_drewN | apply Kd.R_drew)); exact Kd.R_mono HO203.out (fun _ hk => hk.1.2)⟩, ⟨by repeat (first | (with_reducible first | exact HB.out | apply below_alloc | apply pw_below_drewN | apply below_drew1) | exact HB.out)⟩⟩
                · rw [if_neg c31] at H
                  have c31b0 : (t208 == t198) = false := beq_eq_false_iff_ne.mpr c31
                  have c31b1 : (t208 != t198) = true := bne_iff_ne.mpr c31
                  have H' := Aside0.mk H
                  clear H
                  go_wp2
                  go_meet
                  case rel => exact ⟨_, (true), (by first | rfl | (simp; done) | (simp [*]; done)), H', ⟨by first | omega | exact Nat.le_refl _⟩, ⟨by (with_reducible repeat (first | apply Kd.R_alloc | apply Kd.R_drewN | apply Kd.R_drew)); exact Kd.R_mono HO196.out (fun _ hk => hk.1.2)⟩, ⟨by (with_reducible repeat (first | apply Kd.R_alloc | apply Kd.R_drewN | apply Kd.R_drew)); exact Kd.R_mono HO203.out (fun _ hk => hk.1.2)⟩, ⟨by repeat (first | (with_reducible first | exact HB.out | apply below_alloc | apply pw_below_drewN | apply below_drew1) | exact HB.out)⟩⟩
              · rw [if_neg c30] at H
                have c30b0 : (t209 == 0) = false := beq_eq_false_iff_ne.mpr c30
                have c30b1 : (t209 != 0) = true := bne_iff_ne.mpr c30
                have H' := Aside0.mk H
                clear H
                go_wp2
                go_meet
                case rel => exact ⟨_, (true), (by first | rfl | (simp; done) | (simp [*]; done)), H', ⟨by first | omega | exact Nat.le_refl _⟩, ⟨by (with_reducible repeat (first | apply Kd.R_alloc | apply Kd.R_drewN | apply Kd.R_drew)); exact Kd.R_mono HO196.out (fun _ hk => hk.1.2)⟩, ⟨by (with_reducible repeat (first | apply Kd.R_alloc | apply Kd.R_drewN | apply Kd.R_drew)); exact Kd.R_mono HO203.out (fun _ hk => hk.1.2)⟩, ⟨by repeat (first | (with_reducible first | exact HB.out | apply below_alloc | apply pw_below_drewN | apply below_drew1) | exact HB.out)⟩⟩
            · rw [if_neg c29] at H
              have c29b0 : (t205 == 0) = false := beq_eq_false_iff_ne.mpr c29
              have c29b1 : (t205 != 0) = true := bne_iff_ne.mpr c29
              have H' := Aside0.mk H
              clear H
              go_wp2
              go_meet
              case rel => exact ⟨_, (true), (by first | rfl | (simp; done) | (simp [*]; done)), H', ⟨by first | omega | exact Nat.le_refl _⟩, ⟨by (with_reducible repeat (first | apply Kd.R_alloc | apply Kd.R_drewN | apply Kd.R_drew)); exact Kd.R_mono HO196.out (fun _ hk => hk.1.2)⟩, ⟨by (with_reducible repeat (first | apply Kd.R_alloc | apply Kd.R_drewN | apply Kd.R_drew)); exact Kd.R_mono HO203.out (fun _ hk => hk.1.2)⟩, ⟨by repeat (first | (with_reducible first | exact HB.out | apply below_alloc | apply pw_below_drewN | apply below_drew1) | exact HB.out)⟩⟩
          · rw [if_neg c28] at H
            have c28b0 : ((t200.length : Int) == (t194.length : Int)) = false := beq_eq_false_iff_ne.mpr c28
            have c28b1 : ((t200.length : Int) != (t194.length : Int)) = true := bne_iff_ne.mpr c28
            have c28b2 : (t200.length == t194.length) = false := by first | simpa using c28 | (simp at c28 ⊢; omega)
            have H' := Aside0.mk H
            clear H
            go_wp2
            go_meet
            case rel => exact ⟨_, (true), (by first | rfl | (simp; done) | (simp [*]; done)), H', ⟨by first | omega | exact Nat.le_refl _⟩, ⟨by (with_reducible repeat (first | apply Kd.R_alloc | apply Kd.R_drewN | apply Kd.R_drew)); exact Kd.R_mono HO196.out (fun _ hk => hk.1.2)⟩, ⟨by (with_reducible repeat (first | apply Kd.R_alloc | apply Kd.R_drewN | apply Kd.R_drew)); exact Kd.R_mono HO203.out (fun _ hk => hk.1.2)⟩, ⟨by repeat (first | (with_reducible first | exact HB.out | apply below_alloc | apply pw_below_drewN | apply below_drew1) | exact HB.out)⟩⟩
        · rw [if_neg c27] at H
          have c27b0 : (t201 == 0) = false := beq_eq_false_iff_ne.mpr c27
          have c27b1 : (t201 != 0) = true := bne_iff_ne.mpr c27
          have H' := Aside0.mk H
          clear H
          go_wp2
          go_meet
          case rel => exact ⟨_, (true), (by first | rfl | (simp; done) | (simp [*]; done)), H', ⟨by first | omega | exact Nat.le_refl _⟩, ⟨by (with_reducible repeat (first | apply Kd.R_alloc | apply Kd.R_drewN | apply Kd.R_drew)); exact Kd.R_mono HO196.out (fun _ hk => hk.1.2)⟩, ⟨by (with_reducible repeat (first | apply Kd.R_alloc | apply Kd.R_drewN | apply Kd.R_drew)); exact Kd.R_mono HO203.out (fun _ hk => hk.1.2)⟩, ⟨by repeat (first | (with_reducible first | exact HB.out | apply below_alloc | apply pw_below_drewN | apply below_drew1) | exact HB.out)⟩⟩
      · rw [if_neg c26] at H
        have c26b0 : (t199 == 0) = false := beq_eq_false_iff_ne.mpr c26
        have c26b1 : (t199 != 0) = true := bne_iff_ne.mpr c26
        (first | rw [c26b0] | (simp only [i64_w, i32_w]; rw [c26b0]) | skip)
        have H' := Aside0.mk H
        clear H
        go_wp2
        go_meet
        case rel => exact ⟨_, (true), (by first | rfl | (simp; done) | (simp [*]; done)), H', ⟨by first | omega | exact Nat.le_refl _⟩, ⟨by (with_reducible repeat (first | apply Kd.R_alloc | apply Kd.R_drewN | apply Kd.R_drew)); exact Kd.R_mono HO196.out (fun _ hk => hk.1.2)⟩, ⟨by (with_reducible repeat (first | apply Kd.R_alloc | apply Kd.R_drewN | apply Kd.R_drew)); exact Kd.R_mono HO203.out (fun _ hk => hk.1.2)⟩, ⟨by repeat (first | (with_reducible first | exact HB.out | apply below_alloc | apply pw_below_drewN | apply below_drew1) | exact HB.out)⟩⟩
    case rest =>
      clear HC14
      try clear c1
      try clear c2
      try clear p2
      try clear c3
      try clear c4
      try clear c5
      try clear p6
      try clear c20
      try clear c21
      try clear c22
      try clear c23
      try clear c24
      try clear c25
      try clear c26
      try clear c26b0
      try clear c26b1
      try clear c27
      try clear c27b0
      try clear c27b1
      try clear c28
      try clear c28b0
      try clear c28b1
      try clear c28b2
      try clear c29
      try clear c29b0
      try clear c29b1
      try clear c30
      try clear c30b0
      try clear c30b1
      try clear c31
      try clear c31b0
      try clear c31b1
      try clear c32
      try clear c32b0
      try clear c32b1
      try clear c34
      try clear c34b0
      try clear c34b1
      try clear c35
      try clear c35b0
      try clear c35b1
      try clear c36
      try clear c36b0
      try clear c36b1
      try clear c37
      try clear c37b0
      try clear c37b1
      try clear c38
      try clear c38b0
      obtain ⟨kq, x135_13, rfl, HA, HJ13, HO_5, HO_9, HB⟩ := hcut
      cases kq with
      | zero => exact absurd HA.out (by simp [laws_FnSeams.j0])
      | succ kj13 =>
        have H := HA.out
        clear HA
        simp only [laws_FnSeams.j0] at H
        by_cases c40 : x135_13 = true
        · subst c40
          have H1 : (some false) = some r := by rw [if_pos rfl] at H; exact H
          clear H
          have H := H1
          clear H1
          obtain rfl := Option.some.inj H
          go_wp2
          go_ret
          exact ⟨by first | rfl | (simp [errW_none, errW_some] <;> rfl) | (simp [*, errW_none, errW_some] <;> rfl), by repeat (first | (with_reducible first | exact HB.out | apply below_alloc | apply pw_below_drewN | apply below_drew1) | exact HB.out)⟩
        · replace c40 := Bool.eq_false_iff.mpr c40
          subst c40
          have H1 : (laws_FnSeams.l0 kj13 l1 t194 t197 t198 t200 0) = some r := by rw [if_neg (show ¬ (false = true) by decide)] at H; exact H
          clear H
          have H := H1
          clear H1
          have H' := Aside0.mk H
          clear H
          go_wp2
          go_loopg [21] kj13 (fun kq v21 w' => ∃ (x21_2 : Int), v21 = .int .i64 x21_2 ∧ Aside0 (laws_FnSeams.l0 kq l1 t194 t197 t198 t200 x21_2 = some r) ∧ Aside0 (kq ≤ kj13) ∧ Aside0 (Kd.R (Kd.int .i64) 2 w' w.heap.size (fun k_ => some k_ ≠ ((.slice Ao19 t200.length co19) : Value).ownBlock) (.slice Ao16 t194.length co16) t194) ∧ Aside0 (Kd.R (Kd.int .i64) 2 w' w.heap.size (fun k_ => some k_ ≠ ((.slice Ao16 t194.length co16) : Value).ownBlock) (.slice Ao19 t200.length co19) t200) ∧ Aside0 (Below w.heap.size w w'))
          case atStart => exact ⟨(0), (by first | rfl | (simp; done) | (simp [*]; done)), H', ⟨Nat.le_refl _⟩, ⟨by (with_reducible repeat (first | apply Kd.R_alloc | apply Kd.R_drewN | apply Kd.R_drew)); exact HO_5.out⟩, ⟨by (with_reducible repeat (first | apply Kd.R_alloc | apply Kd.R_drewN | apply Kd.R_drew)); exact HO_9.out⟩, ⟨by repeat (first | (with_reducible first | exact HB.out | apply below_alloc | apply pw_below_drewN | apply below_drew1) | exact HB.out)⟩⟩
          case round =>
            clear H'
            try clear c1
            try clear c2
            try clear p2
            try clear c3
            try clear c4
            try clear c5
            try clear p6
            try clear c20
            try clear c21
            try clear c22
            try clear c23
            try clear c24
            try clear c25
            try clear c26
            try clear c26b0
            try clear c26b1
            try clear c27
            try clear c27b0
            try clear c27b1
            try clear c28
            try clear c28b0
            try clear c28b1
            try clear c28b2
            try clear c29
            try clear c29b0
            try clear c29b1
            try clear c30
            try clear c30b0
            try clear c30b1
            try clear c31
            try clear c31b0
            try clear c31b1
            try clear c32
            try clear c32b0
            try clear c32b1
            try clear c34
            try clear c34b0
            try clear c34b1
            try clear c35
            try clear c35b0
            try clear c35b1
            try clear c36
            try clear c36b0
            try clear c36b1
            try clear c37
            try clear c37b0
            try clear c37b1
            try clear c38
            try clear c38b0
            try clear c40
            try clear p2
            try clear p6
            obtain ⟨x21_2, rfl, HA, HK2, HO_5, HO_9, HB⟩ := hrel
            cases gk with
            | zero => exact absurd HA.out (by simp [laws_FnSeams.l0])
            | succ k2 =>
              have H := HA.out
              clear HA
              simp only [laws_FnSeams.l0] at H
              by_cases c41 : x21_2 < (t200.length : Int)
              · rw [if_pos c41] at H
                have c41b0 : decide (x21_2 < (t200.length : Int)) = true := decide_eq_true c41
                clear c41
                by_cases c42 : 0 ≤ x21_2
                · rw [if_pos c42] at H
                  have c42b0 : decide (0 ≤ x21_2) = true := decide_eq_true c42
                  clear c42
                  by_cases c43 : (rd t200 x21_2) < (wrap64 (-t197))
                  · rw [if_pos c43] at H
                    have c43b0 : decide ((rd t200 x21_2) < (wrap64 (-t197))) = true := decide_eq_true c43
                    clear c43
                    obtain rfl := Option.some.inj H
                    have p217 : 0 ≤ (x21_2 : Int) := of_decide_eq_true (by first | (with_reducible assumption) | assumption)
                    have q217 : x21_2 < (t200.length : Int) := of_decide_eq_true (by first | (with_reducible assumption) | assumption)
                    obtain ⟨ad217, e217, hx217_0⟩ := Kd.at_int (Kd.R_reads' HO_9.out).2.2 x21_2 p217 q217
                    cases e217
                    replace p217 := eq_true p217
                    replace q217 := eq_true q217
                    go_wp2
                    go_ret
                    exact ⟨by first | rfl | (simp [errW_none, errW_some] <;> rfl) | (simp [*, errW_none, errW_some] <;> rfl), by repeat (first | (with_reducible first | exact HB.out | apply below_alloc | apply pw_below_drewN | apply below_drew1) | exact HB.out)⟩
                  · rw [if_neg c43] at H
                    have c43b0 : decide ((rd t200 x21_2) < (wrap64 (-t197))) = false := decide_eq_false c43
                    clear c43
                    by_cases c44 : (rd t200 x21_2) > t197
                    · rw [if_pos c44] at H
                      have c44b0 : decide (t197 < (rd t200 x21_2)) = true := decide_eq_true c44
                      clear c44
                      obtain rfl := Option.some.inj H
                      have p217 : 0 ≤ (x21_2 : Int) := of_decide_eq_true (by first | (with_reducible assumption) | assumption)
                      have q217 : x21_2 < (t200.length : Int) := of_decide_eq_true (by first | (with_reducible assumption) | assumption)
                      obtain ⟨ad217, e217, hx217_0⟩ := Kd.at_int (Kd.R_reads' HO_9.out).2.2 x21_2 p217 q217
                      cases e217
                      replace p217 := eq_true p217
                      replace q217 := eq_true q217
                      have p218 : 0 ≤ (x21_2 : Int) := of_decide_eq_true (by first | (with_reducible assumption) | assumption)
                      have q218 : x21_2 < (t200.length : Int) := of_decide_eq_true (by first | (with_reducible assumption) | assumption)
                      obtain ⟨ad218, e218, hx218_0⟩ := Kd.at_int (Kd.R_reads' HO_9.out).2.2 x21_2 p218 q218
                      obtain rfl : ad217 = ad218 := (by injection e218)
                      replace p218 := eq_true p218
                      replace q218 := eq_true q218
                      go_wp2
                      go_ret
                      exact ⟨by first | rfl | (simp [errW_none, errW_some] <;> rfl) | (simp [*, errW_none, errW_some] <;> rfl), by repeat (first | (with_reducible first | exact HB.out | apply below_alloc | apply pw_below_drewN | apply below_drew1) | exact HB.out)⟩
                    · rw [if_neg c44] at H
                      have c44b0 : decide (t197 < (rd t200 x21_2)) = false := decide_eq_false c44
                      clear c44
                      have H' := Aside0.mk H
                      clear H
                      have p217 : 0 ≤ (x21_2 : Int) := of_decide_eq_true (by first | (with_reducible assumption) | assumption)
                      have q217 : x21_2 < (t200.length : Int) := of_decide_eq_true (by first | (with_reducible assumption) | assumption)
                      obtain ⟨ad217, e217, hx217_0⟩ := Kd.at_int (Kd.R_reads' HO_9.out).2.2 x21_2 p217 q217
                      cases e217
                      replace p217 := eq_true p217
                      replace q217 := eq_true q217
                      have p218 : 0 ≤ (x21_2 : Int) := of_decide_eq_true (by first | (with_reducible assumption) | assumption)
                      have q218 : x21_2 < (t200.length : Int) := of_decide_eq_true (by first | (with_reducible assumption) | assumption)
                      obtain ⟨ad218, e218, hx218_0⟩ := Kd.at_int (Kd.R_reads' HO_9.out).2.2 x21_2 p218 q218
                      obtain rfl : ad217 = ad218 := (by injection e218)
                      replace p218 := eq_true p218
                      replace q218 := eq_true q218
                      go_wp2
                      go_roundg k2
                      case measure => have := HJ13.out; have := HK2.out; omega
                      case rel => exact ⟨(wrap64 (x21_2 + 1)), (by first | rfl | (simp; done) | (simp [*]; done)), H', ⟨by have := HJ13.out; have := HK2.out; omega⟩, ⟨by (with_reducible repeat (first | apply Kd.R_alloc | apply Kd.R_drewN | apply Kd.R_drew)); exact HO_5.out⟩, ⟨by (with_reducible repeat (first | apply Kd.R_alloc | apply Kd.R_drewN | apply Kd.R_drew)); exact HO_9.out⟩, ⟨by repeat (first | (with_reducible first | exact HB.out | apply below_alloc | apply pw_below_drewN | apply below_drew1) | exact HB.out)⟩⟩
                · rw [if_neg c42] at H
                  exact absurd H (by simp)
              · rw [if_neg c41] at H
                have c41b0 : decide (x21_2 < (t200.length : Int)) = false := decide_eq_false c41
                clear c41
                replace H := Option.bind_eq_some_iff.mp H
                obtain ⟨t219, A450, H⟩ := H
                replace H : ((spec_GapsAfter.f k2 t194 t219).bind fun bt222 => ((spec_WorstGap.f k2 bt222.1).bind fun bt226 => (if bt222.2 = 0 then (if bt226.2 = 0 then (some (decide (bt226.1 ≥ t198))) else (some false)) else (some false)))) = some r := H
                have A45 := Aside0.mk A450
                clear A450
                replace H := Option.bind_eq_some_iff.mp H
                obtain ⟨⟨t222, t223⟩, A460, H⟩ := H
                replace H : ((spec_WorstGap.f k2 t222).bind fun bt226 => (if t223 = 0 then (if bt226.2 = 0 then (some (decide (bt226.1 ≥ t198))) else (some false)) else (some false))) = some r := H
                have A46 := Aside0.mk A460
                clear A460
                replace H := Option.bind_eq_some_iff.mp H
                obtain ⟨⟨t226, t227⟩, A470, H⟩ := H
                replace H : (if t223 = 0 then (if t227 = 0 then (some (decide (t226 ≥ t198))) else (some false)) else (some false)) = some r := H
                have A47 := Aside0.mk A470
                clear A470
                by_cases c48 : t223 = 0
                · rw [if_pos c48] at H
                  have c48b0 : (t223 == 0) = true := beq_iff_eq.mpr c48
                  have c48b1 : (t223 != 0) = false := bne_eq_false_iff_eq.mpr c48
                  clear c48
                  by_cases c49 : t227 = 0
                  · rw [if_pos c49] at H
                    have c49b0 : (t227 == 0) = true := beq_iff_eq.mpr c49
                    have c49b1 : (t227 != 0) = false := bne_eq_false_iff_eq.mpr c49
                    clear c49
                    obtain rfl := Option.some.inj H
                    go_wp2_with (first | ((with_reducible refine gate_callee (f := 30) rfl ?_); refine goesL_ (some 163) rfl rfl Try.func30 (by kernel_rfl) rfl #[.slice A1 l1.length c1, .int .i64 (t194.length : Int), .int .i64 t197] rfl (by (try simp only [List.map_toArray, List.map_cons, List.map_nil]); first | done | rfl | (simp only [List.length_drop, List.length_take]; rfl)) ?_; (with_reducible refine (spec_A2Shifts.calls k2 _ _ l1 (t194.length : Int) t197 t219 _ ?side1 ?side2 A45.out).mono ?_); (case side1 => repeat (first | exact (Kd.C_below HR1.out HB.out) | (with_reducible refine Kd.C_alloc ?_ _) | (with_reducible refine Kd.C_drewN ?_ _) | (with_reducible refine Kd.C_drew ?_))); (case side2 => exact HC1.out); rintro e w50 ⟨v220, rfl, ho0, hb⟩; refine ⟨_, rfl, ?_⟩; have n0_ := Aside0.mk (Kd.R_elder' (by (with_reducible repeat (first | apply Kd.R_alloc | apply Kd.R_drewN | apply Kd.R_drew)); exact HO_5.out) (Kd.R_base ho0) hb); have n1_ := Aside0.mk (Kd.R_elder' (by (with_reducible repeat (first | apply Kd.R_alloc | apply Kd.R_drewN | apply Kd.R_drew)); exact HO_9.out) (Kd.R_base ho0) hb); have n2_ := Aside0.mk (Kd.R_lower (Kd.R_new' (Kd.R_new' ho0 (Kd.R_lt (by (with_reducible repeat (first | apply Kd.R_alloc | apply Kd.R_drewN | apply Kd.R_drew)); exact HO_5.out))) (Kd.R_lt (by (with_reducible repeat (first | apply Kd.R_alloc | apply Kd.R_drewN | apply Kd.R_drew)); exact HO_9.out))) (below_size (by repeat (first | (with_reducible first | exact HB.out | apply below_alloc | apply pw_below_drewN | apply below_drew1) | exact HB.out)))); have n3_ := Aside0.mk (below_step (by repeat (first | (with_reducible first | exact HB.out | apply below_alloc | apply pw_below_drewN | apply below_drew1) | exact HB.out)) hb); clear HO_5; clear HO_9; clear HB; have HO_5 := n0_; have HO_9 := n1_; have HO221 := n2_; have HB := n3_; clear n0_ n1_ n2_ n3_; (try clear hb); (try clear hb2); (try clear hk); (try clear hi); (try clear ho0); obtain ⟨Ao51, co51, eo51⟩ := Kd.R_slice HO221.out; subst eo51) | ((with_reducible refine gate_callee (f := 29) rfl ?_); refine goesL_ (some 164) rfl rfl Try.func29 (by kernel_rfl) rfl #[.slice Ao16 t194.length co16, .slice Ao51 t219.length co51] rfl (by (try simp only [List.map_toArray, List.map_cons, List.map_nil]); first | done | rfl | (simp only [List.length_drop, List.length_take]; rfl)) ?_; (with_reducible refine (spec_GapsAfter.calls k2 _ _ t194 _ _ t219 t222 t223 _ ?side1 ?side2 ?side3 ?side4 A46.out).mono ?_); (case side1 => repeat (first | exact (Kd.R_reads' HO_5.out).2.2 | (with_reducible refine Kd.C_alloc ?_ _) | (with_reducible refine Kd.C_drewN ?_ _) | (with_reducible refine Kd.C_drew ?_))); (case side2 => exact (Kd.R_reads' HO_5.out).2.1); (case side3 => repeat (first | exact (Kd.R_reads' HO221.out).2.2 | (with_reducible refine Kd.C_alloc ?_ _) | (with_reducible refine Kd.C_drewN ?_ _) | (with_reducible refine Kd.C_drew ?_))); (case side4 => exact (Kd.R_reads' HO221.out).2.1); rintro e w52 ⟨v224, rfl, ho0, hb⟩; refine ⟨_, rfl, ?_⟩; have n0_ := Aside0.mk (Kd.R_elder' (by (with_reducible repeat (first | apply Kd.R_alloc | apply Kd.R_drewN | apply Kd.R_drew)); exact HO_5.out) (Kd.R_base ho0) hb); have n1_ := Aside0.mk (Kd.R_elder' (by (with_reducible repeat (first | apply Kd.R_alloc | apply Kd.R_drewN | apply Kd.R_drew)); exact HO_9.out) (Kd.R_base ho0) hb); have n2_ := Aside0.mk (Kd.R_elder' (by (with_reducible repeat (first | apply Kd.R_alloc | apply Kd.R_drewN | apply Kd.R_drew)); exact HO221.out) (Kd.R_base ho0) hb); have n3_ := Aside0.mk (Kd.R_lower (Kd.R_new' (Kd.R_new' (Kd.R_new' ho0 (Kd.R_lt (by (with_reducible repeat (first | apply Kd.R_alloc | apply Kd.R_drewN | apply Kd.R_drew)); exact HO_5.out))) (Kd.R_lt (by (with_reducible repeat (first | apply Kd.R_alloc | apply Kd.R_drewN | apply Kd.R_drew)); exact HO_9.out))) (Kd.R_lt (by (with_reducible repeat (first | apply Kd.R_alloc | apply Kd.R_drewN | apply Kd.R_drew)); exact HO221.out))) (below_size (by repeat (first | (with_reducible first | exact HB.out | apply below_alloc | apply pw_below_drewN | apply below_drew1) | exact HB.out)))); have n4_ := Aside0.mk (below_step (by repeat (first | (with_reducible first | exact HB.out | apply below_alloc | apply pw_below_drewN | apply below_drew1) | exact HB.out)) hb); clear HO_5; clear HO_9; clear HO221; clear HB; have HO_5 := n0_; have HO_9 := n1_; have HO221 := n2_; have HO225 := n3_; have HB := n4_; clear n0_ n1_ n2_ n3_ n4_; (try clear hb); (try clear hb2); (try clear hk); (try clear hi); (try clear ho0); obtain ⟨Ao53, co53, eo53⟩ := Kd.R_slice HO225.out; subst eo53) | ((with_reducible refine gate_callee (f := 31) rfl ?_); refine goesL_ (some 169) rfl rfl Try.func31 (by kernel_rfl) rfl #[.slice Ao53 t222.length co53] rfl (by (try simp only [List.map_toArray, List.map_cons, List.map_nil]); first | done | rfl | (simp only [List.length_drop, List.length_take]; rfl)) ?_; (with_reducible refine (spec_WorstGap.calls k2 _ _ t222 t226 t227 _ ?side1 ?side2 A47.out).mono ?_); (case side1 => repeat (first | exact (Kd.R_reads' HO225.out).2.2 | (with_reducible refine Kd.C_alloc ?_ _) | (with_reducible refine Kd.C_drewN ?_ _) | (with_reducible refine Kd.C_drew ?_))); (case side2 => exact (Kd.R_reads' HO225.out).2.1); rintro e w' ⟨rfl, ⟨nd, rfl⟩⟩; refine ⟨_, rfl, ?_⟩))
                    go_ret
                    exact ⟨by first | rfl | (simp [errW_none, errW_some] <;> rfl) | (simp [*, errW_none, errW_some] <;> rfl), by repeat (first | (with_reducible first | exact HB.out | apply below_alloc | apply pw_below_drewN | apply below_drew1) | exact HB.out)⟩
                  · rw [if_neg c49] at H
                    have c49b0 : (t227 == 0) = false := beq_eq_false_iff_ne.mpr c49
                    have c49b1 : (t227 != 0) = true := bne_iff_ne.mpr c49
                    obtain rfl := Option.some.inj H
                    go_wp2_with (first | ((with_reducible refine gate_callee (f := 30) rfl ?_); refine goesL_ (some 163) rfl rfl Try.func30 (by kernel_rfl) rfl #[.slice A1 l1.length c1, .int .i64 (t194.length : Int), .int .i64 t197] rfl (by (try simp only [List.map_toArray, List.map_cons, List.map_nil]); first | done | rfl | (simp only [List.length_drop, List.length_take]; rfl)) ?_; (with_reducible refine (spec_A2Shifts.calls k2 _ _ l1 (t194.length : Int) t197 t219 _ ?side1 ?side2 A45.out).mono ?_); (case side1 => repeat (first | exact (Kd.C_below HR1.out HB.out) | (with_reducible refine Kd.C_alloc ?_ _) | (with_reducible refine Kd.C_drewN ?_ _) | (with_reducible refine Kd.C_drew ?_))); (case side2 => exact HC1.out); rintro e w54 ⟨v220, rfl, ho0, hb⟩; refine ⟨_, rfl, ?_⟩; have n0_ := Aside0.mk (Kd.R_elder' (by (with_reducible repeat (first | apply Kd.R_alloc | apply Kd.R_drewN | apply Kd.R_drew)); exact HO_5.out) (Kd.R_base ho0) hb); have n1_ := Aside0.mk (Kd.R_elder' (by (with_reducible repeat (first | apply Kd.R_alloc | apply Kd.R_drewN | apply Kd.R_drew)); exact HO_9.out) (Kd.R_base ho0) hb); have n2_ := Aside0.mk (Kd.R_lower (Kd.R_new' (Kd.R_new' ho0 (Kd.R_lt (by (with_reducible repeat (first | apply Kd.R_alloc | apply Kd.R_drewN | apply Kd.R_drew)); exact HO_5.out))) (Kd.R_lt (by (with_reducible repeat (first | apply Kd.R_alloc | apply Kd.R_drewN | apply Kd.R_drew)); exact HO_9.out))) (below_size (by repeat (first | (with_reducible first | exact HB.out | apply below_alloc | apply pw_below_drewN | apply below_drew1) | exact HB.out)))); have n3_ := Aside0.mk (below_step (by repeat (first | (with_reducible first | exact HB.out | apply below_alloc | apply pw_below_drewN | apply below_drew1) | exact HB.out)) hb); clear HO_5; clear HO_9; clear HB; have HO_5 := n0_; have HO_9 := n1_; have HO221 := n2_; have HB := n3_; clear n0_ n1_ n2_ n3_; (try clear hb); (try clear hb2); (try clear hk); (try clear hi); (try clear ho0); obtain ⟨Ao55, co55, eo55⟩ := Kd.R_slice HO221.out; subst eo55) | ((with_reducible refine gate_callee (f := 29) rfl ?_); refine goesL_ (some 164) rfl rfl Try.func29 (by kernel_rfl) rfl #[.slice Ao16 t194.length co16, .slice Ao55 t219.length co55] rfl (by (try simp only [List.map_toArray, List.map_cons, List.map_nil]); first | done | rfl | (simp only [List.length_drop, List.length_take]; rfl)) ?_; (with_reducible refine (spec_GapsAfter.calls k2 _ _ t194 _ _ t219 t222 t223 _ ?side1 ?side2 ?side3 ?side4 A46.out).mono ?_); (case side1 => repeat (first | exact (Kd.R_reads' HO_5.out).2.2 | (with_reducible refine Kd.C_alloc ?_ _) | (with_reducible refine Kd.C_drewN ?_ _) | (with_reducible refine Kd.C_drew ?_))); (case side2 => exact (Kd.R_reads' HO_5.out).2.1); (case side3 => repeat (first | exact (Kd.R_reads' HO221.out).2.2 | (with_reducible refine Kd.C_alloc ?_ _) | (with_reducible refine Kd.C_drewN ?_ _) | (with_reducible refine Kd.C_drew ?_))); (case side4 => exact (Kd.R_reads' HO221.out).2.1); rintro e w56 ⟨v224, rfl, ho0, hb⟩; refine ⟨_, rfl, ?_⟩; have n0_ := Aside0.mk (Kd.R_elder' (by (with_reducible repeat (first | apply Kd.R_alloc | apply Kd.R_drewN | apply Kd.R_drew)); exact HO_5.out) (Kd.R_base ho0) hb); have n1_ := Aside0.mk (Kd.R_elder' (by (with_reducible repeat (first | apply Kd.R_alloc | apply Kd.R_drewN | apply Kd.R_drew)); exact HO_9.out) (Kd.R_base ho0) hb); have n2_ := Aside0.mk (Kd.R_elder' (by (with_reducible repeat (first | apply Kd.R_alloc | apply Kd.R_drewN | apply Kd.R_drew)); exact HO221.out) (Kd.R_base ho0) hb); have n3_ := Aside0.mk (Kd.R_lower (Kd.R_new' (Kd.R_new' (Kd.R_new' ho0 (Kd.R_lt (by (with_reducible repeat (first | apply Kd.R_alloc | apply Kd.R_drewN | apply Kd.R_drew)); exact HO_5.out))) (Kd.R_lt (by (with_reducible repeat (first | apply Kd.R_alloc | apply Kd.R_drewN | apply Kd.R_drew)); exact HO_9.out))) (Kd.R_lt (by (with_reducible repeat (first | apply Kd.R_alloc | apply Kd.R_drewN | apply Kd.R_drew)); exact HO221.out))) (below_size (by repeat (first | (with_reducible first | exact HB.out | apply below_alloc | apply pw_below_drewN | apply below_drew1) | exact HB.out)))); have n4_ := Aside0.mk (below_step (by repeat (first | (with_reducible first | exact HB.out | apply below_alloc | apply pw_below_drewN | apply below_drew1) | exact HB.out)) hb); clear HO_5; clear HO_9; clear HO221; clear HB; have HO_5 := n0_; have HO_9 := n1_; have HO221 := n2_; have HO225 := n3_; have HB := n4_; clear n0_ n1_ n2_ n3_ n4_; (try clear hb); (try clear hb2); (try clear hk); (try clear hi); (try clear ho0); obtain ⟨Ao57, co57, eo57⟩ := Kd.R_slice HO225.out; subst eo57) | ((with_reducible refine gate_callee (f := 31) rfl ?_); refine goesL_ (some 169) rfl rfl Try.func31 (by kernel_rfl) rfl #[.slice Ao57 t222.length co57] rfl (by (try simp only [List.map_toArray, List.map_cons, List.map_nil]); first | done | rfl | (simp only [List.length_drop, List.length_take]; rfl)) ?_; (with_reducible refine (spec_WorstGap.calls k2 _ _ t222 t226 t227 _ ?side1 ?side2 A47.out).mono ?_); (case side1 => repeat (first | exact (Kd.R_reads' HO225.out).2.2 | (with_reducible refine Kd.C_alloc ?_ _) | (with_reducible refine Kd.C_drewN ?_ _) | (with_reducible refine Kd.C_drew ?_))); (case side2 => exact (Kd.R_reads' HO225.out).2.1); rintro e w' ⟨rfl, ⟨nd, rfl⟩⟩; refine ⟨_, rfl, ?_⟩))
                    go_ret
                    exact ⟨by first | rfl | (simp [errW_none, errW_some] <;> rfl) | (simp [*, errW_none, errW_some] <;> rfl), by repeat (first | (with_reducible first | exact HB.out | apply below_alloc | apply pw_below_drewN | apply below_drew1) | exact HB.out)⟩
                · rw [if_neg c48] at H
                  have c48b0 : (t223 == 0) = false := beq_eq_false_iff_ne.mpr c48
                  have c48b1 : (t223 != 0) = true := bne_iff_ne.mpr c48
                  obtain rfl := Option.some.inj H
                  go_wp2_with (first | ((with_reducible refine gate_callee (f := 30) rfl ?_); refine goesL_ (some 163) rfl rfl Try.func30 (by kernel_rfl) rfl #[.slice A1 l1.length c1, .int .i64 (t194.length : Int), .int .i64 t197] rfl (by (try simp only [List.map_toArray, List.map_cons, List.map_nil]); first | done | rfl | (simp only [List.length_drop, List.length_take]; rfl)) ?_; (with_reducible refine (spec_A2Shifts.calls k2 _ _ l1 (t194.length : Int) t197 t219 _ ?side1 ?side2 A45.out).mono ?_); (case side1 => repeat (first | exact (Kd.C_below HR1.out HB.out) | (with_reducible refine Kd.C_alloc ?_ _) | (with_reducible refine Kd.C_drewN ?_ _) | (with_reducible refine Kd.C_drew ?_))); (case side2 => exact HC1.out); rintro e w58 ⟨v220, rfl, ho0, hb⟩; refine ⟨_, rfl, ?_⟩; have n0_ := Aside0.mk (Kd.R_elder' (by (with_reducible repeat (first | apply Kd.R_alloc | apply Kd.R_drewN | apply Kd.R_drew)); exact HO_5.out) (Kd.R_base ho0) hb); have n1_ := Aside0.mk (Kd.R_elder' (by (with_reducible repeat (first | apply Kd.R_alloc | apply Kd.R_drewN | apply Kd.R_drew)); exact HO_9.out) (Kd.R_base ho0) hb); have n2_ := Aside0.mk (Kd.R_lower (Kd.R_new' (Kd.R_new' ho0 (Kd.R_lt (by (with_reducible repeat (first | apply Kd.R_alloc | apply Kd.R_drewN | apply Kd.R_drew)); exact HO_5.out))) (Kd.R_lt (by (with_reducible repeat (first | apply Kd.R_alloc | apply Kd.R_drewN | apply Kd.R_drew)); exact HO_9.out))) (below_size (by repeat (first | (with_reducible first | exact HB.out | apply below_alloc | apply pw_below_drewN | apply below_drew1) | exact HB.out)))); have n3_ := Aside0.mk (below_step (by repeat (first | (with_reducible first | exact HB.out | apply below_alloc | apply pw_below_drewN | apply below_drew1) | exact HB.out)) hb); clear HO_5; clear HO_9; clear HB; have HO_5 := n0_; have HO_9 := n1_; have HO221 := n2_; have HB := n3_; clear n0_ n1_ n2_ n3_; (try clear hb); (try clear hb2); (try clear hk); (try clear hi); (try clear ho0); obtain ⟨Ao59, co59, eo59⟩ := Kd.R_slice HO221.out; subst eo59) | ((with_reducible refine gate_callee (f := 29) rfl ?_); refine goesL_ (some 164) rfl rfl Try.func29 (by kernel_rfl) rfl #[.slice Ao16 t194.length co16, .slice Ao59 t219.length co59] rfl (by (try simp only [List.map_toArray, List.map_cons, List.map_nil]); first | done | rfl | (simp only [List.length_drop, List.length_take]; rfl)) ?_; (with_reducible refine (spec_GapsAfter.calls k2 _ _ t194 _ _ t219 t222 t223 _ ?side1 ?side2 ?side3 ?side4 A46.out).mono ?_); (case side1 => repeat (first | exact (Kd.R_reads' HO_5.out).2.2 | (with_reducible refine Kd.C_alloc ?_ _) | (with_reducible refine Kd.C_drewN ?_ _) | (with_reducible refine Kd.C_drew ?_))); (case side2 => exact (Kd.R_reads' HO_5.out).2.1); (case side3 => repeat (first | exact (Kd.R_reads' HO221.out).2.2 | (with_reducible refine Kd.C_alloc ?_ _) | (with_reducible refine Kd.C_drewN ?_ _) | (with_reducible refine Kd.C_drew ?_))); (case side4 => exact (Kd.R_reads' HO221.out).2.1); rintro e w60 ⟨v224, rfl, ho0, hb⟩; refine ⟨_, rfl, ?_⟩; have n0_ := Aside0.mk (Kd.R_elder' (by (with_reducible repeat (first | apply Kd.R_alloc | apply Kd.R_drewN | apply Kd.R_drew)); exact HO_5.out) (Kd.R_base ho0) hb); have n1_ := Aside0.mk (Kd.R_elder' (by (with_reducible repeat (first | apply Kd.R_alloc | apply Kd.R_drewN | apply Kd.R_drew)); exact HO_9.out) (Kd.R_base ho0) hb); have n2_ := Aside0.mk (Kd.R_elder' (by (with_reducible repeat (first | apply Kd.R_alloc | apply Kd.R_drewN | apply Kd.R_drew)); exact HO221.out) (Kd.R_base ho0) hb); have n3_ := Aside0.mk (Kd.R_lower (Kd.R_new' (Kd.R_new' (Kd.R_new' ho0 (Kd.R_lt (by (with_reducible repeat (first | apply Kd.R_alloc | apply Kd.R_drewN | apply Kd.R_drew)); exact HO_5.out))) (Kd.R_lt (by (with_reducible repeat (first | apply Kd.R_alloc | apply Kd.R_drewN | apply Kd.R_drew)); exact HO_9.out))) (Kd.R_lt (by (with_reducible repeat (first | apply Kd.R_alloc | apply Kd.R_drewN | apply Kd.R_drew)); exact HO221.out))) (below_size (by repeat (first | (with_reducible first | exact HB.out | apply below_alloc | apply pw_below_drewN | apply below_drew1) | exact HB.out)))); have n4_ := Aside0.mk (below_step (by repeat (first | (with_reducible first | exact HB.out | apply below_alloc | apply pw_below_drewN | apply below_drew1) | exact HB.out)) hb); clear HO_5; clear HO_9; clear HO221; clear HB; have HO_5 := n0_; have HO_9 := n1_; have HO221 := n2_; have HO225 := n3_; have HB := n4_; clear n0_ n1_ n2_ n3_ n4_; (try clear hb); (try clear hb2); (try clear hk); (try clear hi); (try clear ho0); obtain ⟨Ao61, co61, eo61⟩ := Kd.R_slice HO225.out; subst eo61) | ((with_reducible refine gate_callee (f := 31) rfl ?_); refine goesL_ (some 169) rfl rfl Try.func31 (by kernel_rfl) rfl #[.slice Ao61 t222.length co61] rfl (by (try simp only [List.map_toArray, List.map_cons, List.map_nil]); first | done | rfl | (simp only [List.length_drop, List.length_take]; rfl)) ?_; (with_reducible refine (spec_WorstGap.calls k2 _ _ t222 t226 t227 _ ?side1 ?side2 A47.out).mono ?_); (case side1 => repeat (first | exact (Kd.R_reads' HO225.out).2.2 | (with_reducible refine Kd.C_alloc ?_ _) | (with_reducible refine Kd.C_drewN ?_ _) | (with_reducible refine Kd.C_drew ?_))); (case side2 => exact (Kd.R_reads' HO225.out).2.1); rintro e w' ⟨rfl, ⟨nd, rfl⟩⟩; refine ⟨_, rfl, ?_⟩))
                  go_ret
                  exact ⟨by first | rfl | (simp [errW_none, errW_some] <;> rfl) | (simp [*, errW_none, errW_some] <;> rfl), by repeat (first | (with_reducible first | exact HB.out | apply below_alloc | apply pw_below_drewN | apply below_drew1) | exact HB.out)⟩

/-- THE ONE PURE STATEMENT of laws_FnSeams: yours. -/
def laws_FnSeams.Pure : Prop := ∀ (l0 : List Int) (l1 : List Int), l0.length ≤ maxLen → l0.length * 1 ≤ 140737488351232 → (∀ x ∈ l0, (Lit.int .u8 x).wf = true) → l1.length ≤ maxLen → l1.length * 1 ≤ 140737488351232 → (∀ x ∈ l1, (Lit.int .u8 x).wf = true) → ∃ k, laws_FnSeams.f k l0 l1 = some true
theorem laws_FnSeams.walk (P : laws_FnSeams.Pure) (a0 : Option Addr) (len0 cap0 : Nat) (z0 : List Int) (a1 : Option Addr) (len1 cap1 : Nat) (z1 : List Int) (w : World) (w0 : (a0 = none ∧ len0 = 0 ∧ cap0 = 0 ∧ z0 = []) ∨ ∃ x, a0 = some x ∧ len0 ≤ cap0 ∧ cap0 ≤ maxLen ∧ z0.length = cap0 ∧ (∀ i, i < z0.length → w.cell? (x.add i) = some (.int .u8 (z0.getD i 0))) ∧ ∀ n ∈ z0, (Lit.int .u8 n).wf = true) (y0 : len0 * 1 ≤ 140737488351232) (w1 : (a1 = none ∧ len1 = 0 ∧ cap1 = 0 ∧ z1 = []) ∨ ∃ x, a1 = some x ∧ len1 ≤ cap1 ∧ cap1 ≤ maxLen ∧ z1.length = cap1 ∧ (∀ i, i < z1.length → w.cell? (x.add i) = some (.int .u8 (z1.getD i 0))) ∧ ∀ n ∈ z1, (Lit.int .u8 n).wf = true) (y1 : len1 * 1 ≤ 140737488351232) :
    Calls Try.prog 5 #[.slice a0 len0 cap0, .slice a1 len1 cap1] w fun e w' => e = .returned (.bool true) ∧ Below w.heap.size w w' := by
  obtain ⟨l0, rfl, hr0, hm0, hw0, hc0⟩ := ReadsInt.ofRowC w0
  obtain ⟨l1, rfl, hr1, hm1, hw1, hc1⟩ := ReadsInt.ofRowC w1
  obtain ⟨k, h⟩ := P l0 l1 hm0 y0 hw0 hm1 y1 hw1
  refine (laws_FnSeams.calls k _ _ l0 _ _ l1 true w (Kd.C_of_reads (d := (0 : Int)) (h1 := fun _ => rfl) hr0) hc0 (Kd.C_of_reads (d := (0 : Int)) (h1 := fun _ => rfl) hr1) hc1 h).mono ?_
  rintro e w' ⟨rfl, hd⟩
  exact ⟨rfl, hd⟩

end Go.Proofs.Ytcgcmnebenllcaa.QFnSeams
