/- Walks of the Go functions that the law FnBalanceOf reaches: written by a program of this session. -/
import Derived.Test.YtncejfhmachapaaQFnBalanceOfx0
import Derived.Test.YtncejfhmachapaaQFnBalanceOfx1
import Derived.Test.YtncejfhmachapaaQFnBalanceOfx2
import Derived.Test.YtncejfhmachapaaQFnBalanceOfx4
namespace Go.Proofs.Ytncejfhmachapaa.QFnBalanceOf
open Go.RowKit Go.Proofs.YtncejfhmachapaaW.PrintWords Go.Proofs.YtncejfhmachapaaW.PrintLast Go.Proofs.YtncejfhmachapaaW.PrintMore
attribute [local go_sem] max2_int min2_int max_two min_two max_three min_three max_four min_four   -- for this text's walks alone
open Go.Proofs.YtncejfhmachapaaW.PrintWords renaming below_alloc → ae, below_drew1 → ac, below_set → ai, below_size → aw, below_step → ap, blk_alloc → ak, blk_below → bf, blk_cell → am, blk_drew → al, blk_drewN → aj, blk_frozen → ao, gate_dst → bi, pw_below_drewN → ab
open Go.Proofs.YtncejfhmachapaaW.PrintWords.Aside0 renaming mk → aa
open Go.Proofs.YtncejfhmachapaaW.PrintWords.Kd renaming C_alloc → ay, C_drew → ba, C_drewN → az, R_alloc → af, R_below → ax, R_drew → ah, R_drewN → ag, R_lower → bg, R_reads' → an, R_slice → bc
open Option renaming bind_eq_some_iff → bl
set_option linter.unusedVariables false
set_option linter.unusedSimpArgs false

/-! ### spec_CounterLoad: function 48 -/
mutual
def spec_CounterLoad.l0 : Nat → List (S64) → List (S62) → Int → Option (Int × Int × Int)
 | 0, _, _, _ => none
 | k + 1, x0, x1, x7 => if x7 < (x1.length : Int) then (if 0 ≤ x7 then ((spec_l02Ok.f ((rd_T62 x1 x7).f0) ((rd_T62 x1 x7).f1)).bind fun t193 => (if t193 = true then (spec_CounterLoad.l0 k x0 x1 (wrap64 (x7 + 1))) else (some (0, 0, 1)))) else (none)) else (if (x1.length : Int) > 10 then (some (0, 0, 2)) else (if (x1.length : Int) = 0 then (some (0, 0, 3)) else ((spec_l20Moment.f k x0).bind fun t194 => (spec_CounterLoad.l1 k x1 t194 0 0 (-1) 0))))
def spec_CounterLoad.l1 : Nat → List (S62) → List Int → Int → Int → Int → Int → Option (Int × Int × Int)
 | 0, _, _, _, _, _, _ => none
 | k + 1, x1, x8, x9, x10, x11, x12 => if x12 < (x1.length : Int) then (spec_CounterLoad.l2 k x1 x8 x9 x10 x11 x12 1) else (some (x9, x10, 0))
def spec_CounterLoad.l2 : Nat → List (S62) → List Int → Int → Int → Int → Int → Int → Option (Int × Int × Int)
 | 0, _, _, _, _, _, _, _ => none
 | k + 1, x1, x8, x9, x10, x11, x12, x13 => if x13 ≤ 1000 then (if 0 ≤ x12 then (if x12 < (x1.length : Int) then ((spec_l20Rest.f k x8 ((rd_T62 x1 x12).f0) ((rd_T62 x1 x12).f1) x13).bind fun t198 => (if x11 < 0 then (spec_CounterLoad.l2 k x1 x8 x12 x13 t198 x12 (wrap64 (x13 + 1))) else (if t198 < x11 then (spec_CounterLoad.l2 k x1 x8 x12 x13 t198 x12 (wrap64 (x13 + 1))) else (spec_CounterLoad.l2 k x1 x8 x9 x10 x11 x12 (wrap64 (x13 + 1)))))) else (none)) else (none)) else (spec_CounterLoad.l1 k x1 x8 x9 x10 x11 (wrap64 (x12 + 1)))
end
def spec_CounterLoad.f (k : Nat) (l0 : List (S64)) (l1 : List (S62)) : Option (Int × Int × Int) := (spec_l20Ok.f k l0).bind fun t191 => (if t191 = true then (spec_CounterLoad.l0 k l0 l1 0) else (some (0, 0, 1)))
theorem spec_CounterLoad.mono_l : ∀ k, (∀ y0 y1 y2, LeO (spec_CounterLoad.l0 k y0 y1 y2) (spec_CounterLoad.l0 (k + 1) y0 y1 y2)) ∧ (∀ y0 y1 y2 y3 y4 y5, LeO (spec_CounterLoad.l1 k y0 y1 y2 y3 y4 y5) (spec_CounterLoad.l1 (k + 1) y0 y1 y2 y3 y4 y5)) ∧ (∀ y0 y1 y2 y3 y4 y5 y6, LeO (spec_CounterLoad.l2 k y0 y1 y2 y3 y4 y5 y6) (spec_CounterLoad.l2 (k + 1) y0 y1 y2 y3 y4 y5 y6))
 | 0 => ⟨fun _ _ _ r h => by simp [spec_CounterLoad.l0] at h, fun _ _ _ _ _ _ r h => by simp [spec_CounterLoad.l1] at h, fun _ _ _ _ _ _ _ r h => by simp [spec_CounterLoad.l2] at h⟩
 | k + 1 => by
  obtain ⟨ih0, ih1, ih2⟩ := spec_CounterLoad.mono_l k
  refine ⟨?_, ?_, ?_⟩
  ·intro y0 y1 y2
   unfold spec_CounterLoad.l0
   repeat' first
   | (with_reducible exact ih0 _ _ _)
   | (with_reducible exact ih1 _ _ _ _ _ _)
   | (with_reducible exact ih2 _ _ _ _ _ _ _)
   | (with_reducible exact spec_l20Moment.mono _ _)
   | (with_reducible exact spec_l20Ok.mono _ _)
   | (with_reducible exact spec_l20Rest.mono _ _ _ _ _)
   | (with_reducible exact LeO.refl _)
   | (with_reducible exact LeO.none _)
   | (with_reducible refine LeO.ite ?_ ?_)
   | (with_reducible refine LeO.bind ?_ (fun _ => ?_))
   | exact ih0 _ _ _
   | exact ih1 _ _ _ _ _ _
   | exact ih2 _ _ _ _ _ _ _
   | exact spec_l20Moment.mono _ _
   | exact spec_l20Ok.mono _ _
   | exact spec_l20Rest.mono _ _ _ _ _
   | exact LeO.none _
   | refine LeO.ite ?_ ?_
   | refine LeO.bind ?_ (fun _ => ?_)
  ·intro y0 y1 y2 y3 y4 y5
   unfold spec_CounterLoad.l1
   repeat' first
   | (with_reducible exact ih0 _ _ _)
   | (with_reducible exact ih1 _ _ _ _ _ _)
   | (with_reducible exact ih2 _ _ _ _ _ _ _)
   | (with_reducible exact spec_l20Moment.mono _ _)
   | (with_reducible exact spec_l20Ok.mono _ _)
   | (with_reducible exact spec_l20Rest.mono _ _ _ _ _)
   | (with_reducible exact LeO.refl _)
   | (with_reducible exact LeO.none _)
   | (with_reducible refine LeO.ite ?_ ?_)
   | (with_reducible refine LeO.bind ?_ (fun _ => ?_))
   | exact ih0 _ _ _
   | exact ih1 _ _ _ _ _ _
   | exact ih2 _ _ _ _ _ _ _
   | exact spec_l20Moment.mono _ _
   | exact spec_l20Ok.mono _ _
   | exact spec_l20Rest.mono _ _ _ _ _
   | exact LeO.none _
   | refine LeO.ite ?_ ?_
   | refine LeO.bind ?_ (fun _ => ?_)
  ·intro y0 y1 y2 y3 y4 y5 y6
   unfold spec_CounterLoad.l2
   repeat' first
   | (with_reducible exact ih0 _ _ _)
   | (with_reducible exact ih1 _ _ _ _ _ _)
   | (with_reducible exact ih2 _ _ _ _ _ _ _)
   | (with_reducible exact spec_l20Moment.mono _ _)
   | (with_reducible exact spec_l20Ok.mono _ _)
   | (with_reducible exact spec_l20Rest.mono _ _ _ _ _)
   | (with_reducible exact LeO.refl _)
   | (with_reducible exact LeO.none _)
   | (with_reducible refine LeO.ite ?_ ?_)
   | (with_reducible refine LeO.bind ?_ (fun _ => ?_))
   | exact ih0 _ _ _
   | exact ih1 _ _ _ _ _ _
   | exact ih2 _ _ _ _ _ _ _
   | exact spec_l20Moment.mono _ _
   | exact spec_l20Ok.mono _ _
   | exact spec_l20Rest.mono _ _ _ _ _
   | exact LeO.none _
   | refine LeO.ite ?_ ?_
   | refine LeO.bind ?_ (fun _ => ?_)
theorem spec_CounterLoad.mono : ∀ a0 a1 k, LeO (spec_CounterLoad.f k a0 a1) (spec_CounterLoad.f (k + 1) a0 a1) := by
 intro a0 a1 k
 obtain ⟨ih0, ih1, ih2⟩ := spec_CounterLoad.mono_l k
 unfold spec_CounterLoad.f
 repeat' first
   | (with_reducible exact ih0 _ _ _)
   | (with_reducible exact ih1 _ _ _ _ _ _)
   | (with_reducible exact ih2 _ _ _ _ _ _ _)
   | (with_reducible exact spec_l20Moment.mono _ _)
   | (with_reducible exact spec_l20Ok.mono _ _)
   | (with_reducible exact spec_l20Rest.mono _ _ _ _ _)
   | (with_reducible exact LeO.refl _)
   | (with_reducible exact LeO.none _)
   | (with_reducible refine LeO.ite ?_ ?_)
   | (with_reducible refine LeO.bind ?_ (fun _ => ?_))
   | exact ih0 _ _ _
   | exact ih1 _ _ _ _ _ _
   | exact ih2 _ _ _ _ _ _ _
   | exact spec_l20Moment.mono _ _
   | exact spec_l20Ok.mono _ _
   | exact spec_l20Rest.mono _ _ _ _ _
   | exact LeO.none _
   | refine LeO.ite ?_ ?_
   | refine LeO.bind ?_ (fun _ => ?_)
set_option maxHeartbeats 8000000 in
set_option maxRecDepth 100000 in
theorem spec_CounterLoad.calls (k : Nat) (A0 : Option Addr) (c0 : Nat) (l0 : List (S64)) (A1 : Option Addr) (c1 : Nat) (l1 : List (S62)) (r1 : Int) (r2 : Int) (r3 : Int) (w : World) (hr0 : Kd.C k64 w A0 l0.length l0) (hc0 : l0.length ≤ c0) (hr1 : Kd.C k62 w A1 l1.length l1) (hc1 : l1.length ≤ c1) (h : spec_CounterLoad.f k l0 l1 = some (r1, r2, r3)) :
  Calls Try.prog 48 #[.slice A0 l0.length c0, .slice A1 l1.length c1] w fun e w' => e = .returned (.tuple #[.int .i64 r1, .int .i64 r2, .int .i64 r3]) ∧ Below w.heap.size w w' := by
 have hu62 := Try.underlying62
 have HR0 := aa hr0
 have HC0 := aa hc0
 clear hr0 hc0
 have HR1 := aa hr1
 have HC1 := aa hc1
 clear hr1 hc1
 have HB := aa (Below.refl w.heap.size w)
 have H : ((spec_l20Ok.f k l0).bind fun t191 => (if t191 = true then (spec_CounterLoad.l0 k l0 l1 0) else (some (0, 0, 1)))) = some (r1, r2, r3) := h
 clear h
 replace H := bl.mp H
 obtain ⟨t191, A30, H⟩ := H
 replace H : (if t191 = true then (spec_CounterLoad.l0 k l0 l1 0) else (some (0, 0, 1))) = some (r1, r2, r3) := H
 have A3 := aa A30
 clear A30
 by_cases c4 : t191 = true
 ·subst c4
  have H1 : (spec_CounterLoad.l0 k l0 l1 0) = some (r1, r2, r3) := by rw [if_pos rfl] at H; exact H
  clear H
  have H := H1
  clear H1
  have H' := aa H
  clear H
  go_enter Try.func48, Try.ntmps48
  go_wp2_with (first | ((with_reducible refine gate_callee (f := 78) rfl ?_); refine goesL_ (some 16) rfl rfl Try.func78 (by kernel_rfl) rfl #[.slice A0 l0.length c0] rfl (by (try simp only [List.map_toArray, List.map_cons, List.map_nil]); first | done | rfl | (simp only [List.length_drop, List.length_take]; rfl)) ?_; (with_reducible refine (spec_l20Ok.calls k _ _ l0 true _ ?side1 ?side2 A3.out).mono ?_); (case side1 => repeat (first | exact HR0.out | (with_reducible refine ay ?_ _) | (with_reducible refine az ?_ _) | (with_reducible refine ba ?_))); (case side2 => exact HC0.out); rintro e w5 ⟨rfl, hb⟩; refine ⟨_, rfl, ?_⟩; have n0_ := aa (ap (by repeat (first | (with_reducible first | exact HB.out | apply ae | apply ab | apply ac) | exact HB.out)) hb); clear HB; have HB := n0_; clear n0_; (try clear hb); (try clear hb2); (try clear hk); (try clear hi)))
  go_loopg [7] k (fun kq v7 w' => ∃ (x7_1 : Int), v7 = .int .i64 x7_1 ∧ Aside0 (spec_CounterLoad.l0 kq l0 l1 x7_1 = some (r1, r2, r3)) ∧ Aside0 (kq ≤ k) ∧ Aside0 (Below w.heap.size w w'))
  case atStart => exact ⟨(0), (by first | rfl | (simp; done) | (simp [*]; done)), H', ⟨Nat.le_refl _⟩, ⟨by repeat (first | (with_reducible first | exact HB.out | apply ae | apply ab | apply ac) | exact HB.out)⟩⟩
  case round =>
   clear H'
   try clear c1
   try clear p2
   try clear c4
   obtain ⟨x7_1, rfl, HA, HK1, HB⟩ := hrel
   cases gk with
   | zero => exact absurd HA.out (by simp [spec_CounterLoad.l0])
   | succ k1 =>
    have H := HA.out
    clear HA
    simp only [spec_CounterLoad.l0] at H
    by_cases c6 : x7_1 < (l1.length : Int)
    ·rw [if_pos c6] at H
     have c6b0 : decide (x7_1 < (l1.length : Int)) = true := decide_eq_true c6
     clear c6
     by_cases c7 : 0 ≤ x7_1
     ·rw [if_pos c7] at H
      have c7b0 : decide (0 ≤ x7_1) = true := decide_eq_true c7
      clear c7
      replace H := bl.mp H
      obtain ⟨t193, A80, H⟩ := H
      (try dsimp only at H)
      have A8 := aa A80
      clear A80
      by_cases c9 : t193 = true
      ·subst c9
       have H1 : (spec_CounterLoad.l0 k1 l0 l1 (wrap64 (x7_1 + 1))) = some (r1, r2, r3) := by rw [if_pos rfl] at H; exact H
       clear H
       have H := H1
       clear H1
       have H' := aa H
       clear H
       have p192 : 0 ≤ (x7_1 : Int) := of_decide_eq_true (by first | (with_reducible assumption) | assumption)
       have q192 : x7_1 < (l1.length : Int) := of_decide_eq_true (by first | (with_reducible assumption) | assumption)
       obtain ⟨ad192, e192, hx192_0, hx192_1⟩ := at_T62 HR1.out x7_1 p192 q192
       cases e192
       replace hx192_0 := (HB.out.cell (World.block_lt_of_cell? w _ hx192_0)).trans hx192_0
       replace hx192_1 := (HB.out.cell (World.block_lt_of_cell? w _ hx192_1)).trans hx192_1
       replace p192 := eq_true p192
       replace q192 := eq_true q192
       go_wp2_with (first | ((with_reducible refine gate_callee (f := 88) rfl ?_); refine goesL_ (some 28) rfl rfl Try.func88 (by kernel_rfl) rfl #[.agg #[.int .i64 ((rd_T62 l1 x7_1).f0), .int .i64 ((rd_T62 l1 x7_1).f1)]] rfl (by (try simp only [List.map_toArray, List.map_cons, List.map_nil]); first | done | rfl | (simp only [List.length_drop, List.length_take]; rfl)) ?_; (with_reducible refine (spec_l02Ok.calls ((rd_T62 l1 x7_1).f0) ((rd_T62 l1 x7_1).f1) true _ A8.out).mono ?_); rintro e w10 ⟨rfl, hb⟩; refine ⟨_, rfl, ?_⟩; have n0_ := aa (ap (by repeat (first | (with_reducible first | exact HB.out | apply ae | apply ab | apply ac) | exact HB.out)) hb); clear HB; have HB := n0_; clear n0_; (try clear hb); (try clear hb2); (try clear hk); (try clear hi)))
       go_roundg k1
       case measure => have := HK1.out; omega
       case rel => exact ⟨(wrap64 (x7_1 + 1)), (by first | rfl | (simp; done) | (simp [*]; done)), H', ⟨by have := HK1.out; omega⟩, ⟨by repeat (first | (with_reducible first | exact HB.out | apply ae | apply ab | apply ac) | exact HB.out)⟩⟩
      ·replace c9 := Bool.eq_false_iff.mpr c9
       subst c9
       have H1 : (some (0, 0, 1)) = some (r1, r2, r3) := by rw [if_neg (show ¬ (false = true) by decide)] at H; exact H
       clear H
       have H := H1
       clear H1
       simp only [Option.some.injEq, Prod.mk.injEq] at H
       obtain ⟨rfl, rfl, rfl⟩ := H
       have p192 : 0 ≤ (x7_1 : Int) := of_decide_eq_true (by first | (with_reducible assumption) | assumption)
       have q192 : x7_1 < (l1.length : Int) := of_decide_eq_true (by first | (with_reducible assumption) | assumption)
       obtain ⟨ad192, e192, hx192_0, hx192_1⟩ := at_T62 HR1.out x7_1 p192 q192
       cases e192
       replace hx192_0 := (HB.out.cell (World.block_lt_of_cell? w _ hx192_0)).trans hx192_0
       replace hx192_1 := (HB.out.cell (World.block_lt_of_cell? w _ hx192_1)).trans hx192_1
       replace p192 := eq_true p192
       replace q192 := eq_true q192
       go_wp2_with (first | ((with_reducible refine gate_callee (f := 88) rfl ?_); refine goesL_ (some 28) rfl rfl Try.func88 (by kernel_rfl) rfl #[.agg #[.int .i64 ((rd_T62 l1 x7_1).f0), .int .i64 ((rd_T62 l1 x7_1).f1)]] rfl (by (try simp only [List.map_toArray, List.map_cons, List.map_nil]); first | done | rfl | (simp only [List.length_drop, List.length_take]; rfl)) ?_; (with_reducible refine (spec_l02Ok.calls ((rd_T62 l1 x7_1).f0) ((rd_T62 l1 x7_1).f1) false _ A8.out).mono ?_); rintro e w11 ⟨rfl, hb⟩; refine ⟨_, rfl, ?_⟩; have n0_ := aa (ap (by repeat (first | (with_reducible first | exact HB.out | apply ae | apply ab | apply ac) | exact HB.out)) hb); clear HB; have HB := n0_; clear n0_; (try clear hb); (try clear hb2); (try clear hk); (try clear hi)))
       go_ret3
       exact ⟨by first | rfl | (simp [errW_none, errW_some] <;> rfl) | (simp [*, errW_none, errW_some] <;> rfl), by repeat (first | (with_reducible first | exact HB.out | apply ae | apply ab | apply ac) | exact HB.out)⟩
     ·rw [if_neg c7] at H
      exact absurd H (by simp)
    ·rw [if_neg c6] at H
     have c6b0 : decide (x7_1 < (l1.length : Int)) = false := decide_eq_false c6
     clear c6
     by_cases c12 : (l1.length : Int) > 10
     ·rw [if_pos c12] at H
      have c12b0 : decide (10 < (l1.length : Int)) = true := decide_eq_true c12
      have c12b1 : decide (10 < l1.length) = true := decide_eq_true (by omega)
      clear c12
      simp only [Option.some.injEq, Prod.mk.injEq] at H
      obtain ⟨rfl, rfl, rfl⟩ := H
      go_wp2
      go_ret3
      exact ⟨by first | rfl | (simp [errW_none, errW_some] <;> rfl) | (simp [*, errW_none, errW_some] <;> rfl), by repeat (first | (with_reducible first | exact HB.out | apply ae | apply ab | apply ac) | exact HB.out)⟩
     ·rw [if_neg c12] at H
      have c12b0 : decide (10 < (l1.length : Int)) = false := decide_eq_false c12
      have c12b1 : decide (10 < l1.length) = false := decide_eq_false (by omega)
      clear c12
      by_cases c13 : (l1.length : Int) = 0
      ·rw [if_pos c13] at H
       have c13b0 : ((l1.length : Int) == 0) = true := beq_iff_eq.mpr c13
       have c13b1 : ((l1.length : Int) != 0) = false := bne_eq_false_iff_eq.mpr c13
       clear c13
       simp only [Option.some.injEq, Prod.mk.injEq] at H
       obtain ⟨rfl, rfl, rfl⟩ := H
       go_wp2
       go_ret3
       exact ⟨by first | rfl | (simp [errW_none, errW_some] <;> rfl) | (simp [*, errW_none, errW_some] <;> rfl), by repeat (first | (with_reducible first | exact HB.out | apply ae | apply ab | apply ac) | exact HB.out)⟩
      ·rw [if_neg c13] at H
       have c13b0 : ((l1.length : Int) == 0) = false := beq_eq_false_iff_ne.mpr c13
       have c13b1 : ((l1.length : Int) != 0) = true := bne_iff_ne.mpr c13
       have c13b2 : ¬ (l1 = []) := fun h_ => c13 (by rw [h_]; rfl)
       replace H := bl.mp H
       obtain ⟨t194, A140, H⟩ := H
       replace H : (spec_CounterLoad.l1 k1 l1 t194 0 0 (-1) 0) = some (r1, r2, r3) := H
       have A14 := aa A140
       clear A140
       have H' := aa H
       clear H
       go_wp2_with (first | ((with_reducible refine gate_callee (f := 84) rfl ?_); refine goesL_ (some 37) rfl rfl Try.func84 (by kernel_rfl) rfl #[.slice A0 l0.length c0] rfl (by (try simp only [List.map_toArray, List.map_cons, List.map_nil]); first | done | rfl | (simp only [List.length_drop, List.length_take]; rfl)) ?_; (with_reducible refine (spec_l20Moment.calls k1 _ _ l0 t194 _ ?side1 ?side2 A14.out).mono ?_); (case side1 => repeat (first | exact (Kd.C_below HR0.out HB.out) | (with_reducible refine ay ?_ _) | (with_reducible refine az ?_ _) | (with_reducible refine ba ?_))); (case side2 => exact HC0.out); rintro e w15 ⟨v195, rfl, ho0, hb⟩; refine ⟨_, rfl, ?_⟩; have n0_ := aa (bg ho0 (aw (by repeat (first | (with_reducible first | exact HB.out | apply ae | apply ab | apply ac) | exact HB.out)))); have n1_ := aa (ap (by repeat (first | (with_reducible first | exact HB.out | apply ae | apply ab | apply ac) | exact HB.out)) hb); clear HB; have HO196 := n0_; have HB := n1_; clear n0_ n1_; (try clear hb); (try clear hb2); (try clear hk); (try clear hi); (try clear ho0)))
       go_loopg [9, 10, 11, 12] k1 (fun kq v9 v10 v11 v12 w' => ∃ (x9_2 : Int) (x10_2 : Int) (x11_2 : Int) (x12_2 : Int), v9 = .int .i64 x9_2 ∧ v10 = .int .i64 x10_2 ∧ v11 = .int .i64 x11_2 ∧ v12 = .int .i64 x12_2 ∧ Aside0 (spec_CounterLoad.l1 kq l1 t194 x9_2 x10_2 x11_2 x12_2 = some (r1, r2, r3)) ∧ Aside0 (kq ≤ k1) ∧ Aside0 (Kd.R (Kd.int .i64) 2 w' w.heap.size (fun _ => True) v195 t194) ∧ Aside0 (Below w.heap.size w w'))
       case atStart => exact ⟨(0), (0), ((-1)), (0), (by first | rfl | (simp; done) | (simp [*]; done)), (by first | rfl | (simp; done) | (simp [*]; done)), (by first | rfl | (simp; done) | (simp [*]; done)), (by first | rfl | (simp; done) | (simp [*]; done)), H', ⟨Nat.le_refl _⟩, ⟨by (with_reducible repeat (first | apply af | apply ag | apply ah)); exact HO196.out⟩, ⟨by repeat (first | (with_reducible first | exact HB.out | apply ae | apply ab | apply ac) | exact HB.out)⟩⟩
       case round =>
        clear H'
        try clear c1
        try clear p1
        try clear q1
        try clear hx1
        try clear p2
        try clear c4
        try clear c6
        try clear c6b0
        try clear p6
        try clear c7
        try clear c7b0
        try clear c8
        try clear c9
        try clear c12
        try clear c12b0
        try clear c12b1
        try clear c13
        try clear c13b0
        try clear c13b1
        try clear c13b2
        try clear hx192_0
        try clear hx192_1
        try clear p192
        try clear p2
        try clear q192
        obtain ⟨x9_2, x10_2, x11_2, x12_2, rfl, rfl, rfl, rfl, HA, HK2, HO_8, HB⟩ := hrel
        cases gk with
        | zero => exact absurd HA.out (by simp [spec_CounterLoad.l1])
        | succ k2 =>
         have H := HA.out
         clear HA
         simp only [spec_CounterLoad.l1] at H
         by_cases c16 : x12_2 < (l1.length : Int)
         ·rw [if_pos c16] at H
          have c16b0 : decide (x12_2 < (l1.length : Int)) = true := decide_eq_true c16
          clear c16
          have H' := aa H
          clear H
          go_wp2
          go_loopg [9, 10, 11, 13] k2 (fun kq v9 v10 v11 v13 w' => ∃ (x9_3 : Int) (x10_3 : Int) (x11_3 : Int) (x13_3 : Int), v9 = .int .i64 x9_3 ∧ v10 = .int .i64 x10_3 ∧ v11 = .int .i64 x11_3 ∧ v13 = .int .i64 x13_3 ∧ Aside0 (spec_CounterLoad.l2 kq l1 t194 x9_3 x10_3 x11_3 x12_2 x13_3 = some (r1, r2, r3)) ∧ Aside0 (kq ≤ k2) ∧ Aside0 (Kd.R (Kd.int .i64) 2 w' w.heap.size (fun _ => True) v195 t194) ∧ Aside0 (Below w.heap.size w w'))
          case atStart => exact ⟨(x9_2), (x10_2), (x11_2), (1), (by first | rfl | (simp; done) | (simp [*]; done)), (by first | rfl | (simp; done) | (simp [*]; done)), (by first | rfl | (simp; done) | (simp [*]; done)), (by first | rfl | (simp; done) | (simp [*]; done)), H', ⟨Nat.le_refl _⟩, ⟨by (with_reducible repeat (first | apply af | apply ag | apply ah)); exact HO_8.out⟩, ⟨by repeat (first | (with_reducible first | exact HB.out | apply ae | apply ab | apply ac) | exact HB.out)⟩⟩
          case round =>
           clear H'
           try clear c1
           try clear p1
           try clear q1
           try clear hx1
           try clear p2
           try clear c4
           try clear c6
           try clear c6b0
           try clear p6
           try clear c7
           try clear c7b0
           try clear c8
           try clear c9
           try clear c12
           try clear c12b0
           try clear c12b1
           try clear c13
           try clear c13b0
           try clear c13b1
           try clear c13b2
           try clear c16
           try clear c16b0
           try clear hx192_0
           try clear hx192_1
           try clear p1
           try clear p192
           try clear p2
           try clear p6
           try clear q1
           try clear q192
           obtain ⟨x9_3, x10_3, x11_3, x13_3, rfl, rfl, rfl, rfl, HA, HK3, HO_8, HB⟩ := hrel
           cases gk with
           | zero => exact absurd HA.out (by simp [spec_CounterLoad.l2])
           | succ k3 =>
            have H := HA.out
            clear HA
            simp only [spec_CounterLoad.l2] at H
            by_cases c17 : x13_3 ≤ 1000
            ·rw [if_pos c17] at H
             have c17b0 : decide (x13_3 ≤ 1000) = true := decide_eq_true c17
             clear c17
             by_cases c18 : 0 ≤ x12_2
             ·rw [if_pos c18] at H
              have c18b0 : decide (0 ≤ x12_2) = true := decide_eq_true c18
              clear c18
              by_cases c19 : x12_2 < (l1.length : Int)
              ·rw [if_pos c19] at H
               have c19b0 : decide (x12_2 < (l1.length : Int)) = true := decide_eq_true c19
               clear c19
               replace H := bl.mp H
               obtain ⟨t198, A200, H⟩ := H
               (try dsimp only at H)
               have A20 := aa A200
               clear A200
               by_cases c21 : x11_3 < 0
               ·rw [if_pos c21] at H
                have c21b0 : decide (x11_3 < 0) = true := decide_eq_true c21
                clear c21
                have H' := aa H
                clear H
                have p197 : 0 ≤ (x12_2 : Int) := of_decide_eq_true (by first | (with_reducible assumption) | assumption)
                have q197 : x12_2 < (l1.length : Int) := of_decide_eq_true (by first | (with_reducible assumption) | assumption)
                obtain ⟨ad197, e197, hx197_0, hx197_1⟩ := at_T62 HR1.out x12_2 p197 q197
                cases e197
                replace hx197_0 := (HB.out.cell (World.block_lt_of_cell? w _ hx197_0)).trans hx197_0
                replace hx197_1 := (HB.out.cell (World.block_lt_of_cell? w _ hx197_1)).trans hx197_1
                replace p197 := eq_true p197
                replace q197 := eq_true q197
                obtain ⟨Ao22, co22, eo22⟩ := bc HO_8.out
                subst eo22
                go_wp2_with (first | ((with_reducible refine gate_callee (f := 89) rfl ?_); refine goesL_ (some 54) rfl rfl Try.func89 (by kernel_rfl) rfl #[.slice Ao22 t194.length co22, .agg #[.int .i64 ((rd_T62 l1 x12_2).f0), .int .i64 ((rd_T62 l1 x12_2).f1)], .int .i64 x13_3] rfl (by (try simp only [List.map_toArray, List.map_cons, List.map_nil]); first | done | rfl | (simp only [List.length_drop, List.length_take]; rfl)) ?_; (with_reducible refine (spec_l20Rest.calls k3 _ _ t194 ((rd_T62 l1 x12_2).f0) ((rd_T62 l1 x12_2).f1) x13_3 t198 _ ?side1 ?side2 A20.out).mono ?_); (case side1 => repeat (first | exact (an HO_8.out).2.2 | (with_reducible refine ay ?_ _) | (with_reducible refine az ?_ _) | (with_reducible refine ba ?_))); (case side2 => exact (an HO_8.out).2.1); rintro e w23 ⟨rfl, hb⟩; refine ⟨_, rfl, ?_⟩; have n0_ := aa (ax (by (with_reducible repeat (first | apply af | apply ag | apply ah)); exact HO_8.out) hb); have n1_ := aa (ap (by repeat (first | (with_reducible first | exact HB.out | apply ae | apply ab | apply ac) | exact HB.out)) hb); clear HO_8; clear HB; have HO_8 := n0_; have HB := n1_; clear n0_ n1_; (try clear hb); (try clear hb2); (try clear hk); (try clear hi)))
                go_roundg k3
                case measure => have := HK1.out; have := HK2.out; have := HK3.out; omega
                case rel => exact ⟨(x12_2), (x13_3), (t198), (wrap64 (x13_3 + 1)), (by first | rfl | (simp; done) | (simp [*]; done)), (by first | rfl | (simp; done) | (simp [*]; done)), (by first | rfl | (simp; done) | (simp [*]; done)), (by first | rfl | (simp; done) | (simp [*]; done)), H', ⟨by have := HK1.out; have := HK2.out; have := HK3.out; omega⟩, ⟨by (with_reducible repeat (first | apply af | apply ag | apply ah)); exact HO_8.out⟩, ⟨by repeat (first | (with_reducible first | exact HB.out | apply ae | apply ab | apply ac) | exact HB.out)⟩⟩
               ·rw [if_neg c21] at H
                have c21b0 : decide (x11_3 < 0) = false := decide_eq_false c21
                clear c21
                by_cases c24 : t198 < x11_3
                ·rw [if_pos c24] at H
                 have c24b0 : decide (t198 < x11_3) = true := decide_eq_true c24
                 clear c24
                 have H' := aa H
                 clear H
                 have p197 : 0 ≤ (x12_2 : Int) := of_decide_eq_true (by first | (with_reducible assumption) | assumption)
                 have q197 : x12_2 < (l1.length : Int) := of_decide_eq_true (by first | (with_reducible assumption) | assumption)
                 obtain ⟨ad197, e197, hx197_0, hx197_1⟩ := at_T62 HR1.out x12_2 p197 q197
                 cases e197
                 replace hx197_0 := (HB.out.cell (World.block_lt_of_cell? w _ hx197_0)).trans hx197_0
                 replace hx197_1 := (HB.out.cell (World.block_lt_of_cell? w _ hx197_1)).trans hx197_1
                 replace p197 := eq_true p197
                 replace q197 := eq_true q197
                 obtain ⟨Ao25, co25, eo25⟩ := bc HO_8.out
                 subst eo25
                 go_wp2_with (first | ((with_reducible refine gate_callee (f := 89) rfl ?_); refine goesL_ (some 54) rfl rfl Try.func89 (by kernel_rfl) rfl #[.slice Ao25 t194.length co25, .agg #[.int .i64 ((rd_T62 l1 x12_2).f0), .int .i64 ((rd_T62 l1 x12_2).f1)], .int .i64 x13_3] rfl (by (try simp only [List.map_toArray, List.map_cons, List.map_nil]); first | done | rfl | (simp only [List.length_drop, List.length_take]; rfl)) ?_; (with_reducible refine (spec_l20Rest.calls k3 _ _ t194 ((rd_T62 l1 x12_2).f0) ((rd_T62 l1 x12_2).f1) x13_3 t198 _ ?side1 ?side2 A20.out).mono ?_); (case side1 => repeat (first | exact (an HO_8.out).2.2 | (with_reducible refine ay ?_ _) | (with_reducible refine az ?_ _) | (with_reducible refine ba ?_))); (case side2 => exact (an HO_8.out).2.1); rintro e w26 ⟨rfl, hb⟩; refine ⟨_, rfl, ?_⟩; have n0_ := aa (ax (by (with_reducible repeat (first | apply af | apply ag | apply ah)); exact HO_8.out) hb); have n1_ := aa (ap (by repeat (first | (with_reducible first | exact HB.out | apply ae | apply ab | apply ac) | exact HB.out)) hb); clear HO_8; clear HB; have HO_8 := n0_; have HB := n1_; clear n0_ n1_; (try clear hb); (try clear hb2); (try clear hk); (try clear hi)))
                 go_roundg k3
                 case measure => have := HK1.out; have := HK2.out; have := HK3.out; omega
                 case rel => exact ⟨(x12_2), (x13_3), (t198), (wrap64 (x13_3 + 1)), (by first | rfl | (simp; done) | (simp [*]; done)), (by first | rfl | (simp; done) | (simp [*]; done)), (by first | rfl | (simp; done) | (simp [*]; done)), (by first | rfl | (simp; done) | (simp [*]; done)), H', ⟨by have := HK1.out; have := HK2.out; have := HK3.out; omega⟩, ⟨by (with_reducible repeat (first | apply af | apply ag | apply ah)); exact HO_8.out⟩, ⟨by repeat (first | (with_reducible first | exact HB.out | apply ae | apply ab | apply ac) | exact HB.out)⟩⟩
                ·rw [if_neg c24] at H
                 have c24b0 : decide (t198 < x11_3) = false := decide_eq_false c24
                 clear c24
                 have H' := aa H
                 clear H
                 have p197 : 0 ≤ (x12_2 : Int) := of_decide_eq_true (by first | (with_reducible assumption) | assumption)
                 have q197 : x12_2 < (l1.length : Int) := of_decide_eq_true (by first | (with_reducible assumption) | assumption)
                 obtain ⟨ad197, e197, hx197_0, hx197_1⟩ := at_T62 HR1.out x12_2 p197 q197
                 cases e197
                 replace hx197_0 := (HB.out.cell (World.block_lt_of_cell? w _ hx197_0)).trans hx197_0
                 replace hx197_1 := (HB.out.cell (World.block_lt_of_cell? w _ hx197_1)).trans hx197_1
                 replace p197 := eq_true p197
                 replace q197 := eq_true q197
                 obtain ⟨Ao27, co27, eo27⟩ := bc HO_8.out
                 subst eo27
                 go_wp2_with (first | ((with_reducible refine gate_callee (f := 89) rfl ?_); refine goesL_ (some 54) rfl rfl Try.func89 (by kernel_rfl) rfl #[.slice Ao27 t194.length co27, .agg #[.int .i64 ((rd_T62 l1 x12_2).f0), .int .i64 ((rd_T62 l1 x12_2).f1)], .int .i64 x13_3] rfl (by (try simp only [List.map_toArray, List.map_cons, List.map_nil]); first | done | rfl | (simp only [List.length_drop, List.length_take]; rfl)) ?_; (with_reducible refine (spec_l20Rest.calls k3 _ _ t194 ((rd_T62 l1 x12_2).f0) ((rd_T62 l1 x12_2).f1) x13_3 t198 _ ?side1 ?side2 A20.out).mono ?_); (case side1 => repeat (first | exact (an HO_8.out).2.2 | (with_reducible refine ay ?_ _) | (with_reducible refine az ?_ _) | (with_reducible refine ba ?_))); (case side2 => exact (an HO_8.out).2.1); rintro e w28 ⟨rfl, hb⟩; refine ⟨_, rfl, ?_⟩; have n0_ := aa (ax (by (with_reducible repeat (first | apply af | apply ag | apply ah)); exact HO_8.out) hb); have n1_ := aa (ap (by repeat (first | (with_reducible first | exact HB.out | apply ae | apply ab | apply ac) | exact HB.out)) hb); clear HO_8; clear HB; have HO_8 := n0_; have HB := n1_; clear n0_ n1_; (try clear hb); (try clear hb2); (try clear hk); (try clear hi)))
                 go_roundg k3
                 case measure => have := HK1.out; have := HK2.out; have := HK3.out; omega
                 case rel => exact ⟨(x9_3), (x10_3), (x11_3), (wrap64 (x13_3 + 1)), (by first | rfl | (simp; done) | (simp [*]; done)), (by first | rfl | (simp; done) | (simp [*]; done)), (by first | rfl | (simp; done) | (simp [*]; done)), (by first | rfl | (simp; done) | (simp [*]; done)), H', ⟨by have := HK1.out; have := HK2.out; have := HK3.out; omega⟩, ⟨by (with_reducible repeat (first | apply af | apply ag | apply ah)); exact HO_8.out⟩, ⟨by repeat (first | (with_reducible first | exact HB.out | apply ae | apply ab | apply ac) | exact HB.out)⟩⟩
              ·rw [if_neg c19] at H
               exact absurd H (by simp)
             ·rw [if_neg c18] at H
              exact absurd H (by simp)
            ·rw [if_neg c17] at H
             have c17b0 : decide (x13_3 ≤ 1000) = false := decide_eq_false c17
             clear c17
             have H' := aa H
             clear H
             go_wp2
             go_roundg k3
             case measure => have := HK1.out; have := HK2.out; have := HK3.out; omega
             case rel => exact ⟨(x9_3), (x10_3), (x11_3), (wrap64 (x12_2 + 1)), (by first | rfl | (simp; done) | (simp [*]; done)), (by first | rfl | (simp; done) | (simp [*]; done)), (by first | rfl | (simp; done) | (simp [*]; done)), (by first | rfl | (simp; done) | (simp [*]; done)), H', ⟨by have := HK1.out; have := HK2.out; have := HK3.out; omega⟩, ⟨by (with_reducible repeat (first | apply af | apply ag | apply ah)); exact HO_8.out⟩, ⟨by repeat (first | (with_reducible first | exact HB.out | apply ae | apply ab | apply ac) | exact HB.out)⟩⟩
         ·rw [if_neg c16] at H
          have c16b0 : decide (x12_2 < (l1.length : Int)) = false := decide_eq_false c16
          clear c16
          simp only [Option.some.injEq, Prod.mk.injEq] at H
          obtain ⟨rfl, rfl, rfl⟩ := H
          go_wp2
          go_ret3
          exact ⟨by first | rfl | (simp [errW_none, errW_some] <;> rfl) | (simp [*, errW_none, errW_some] <;> rfl), by repeat (first | (with_reducible first | exact HB.out | apply ae | apply ab | apply ac) | exact HB.out)⟩
 ·replace c4 := Bool.eq_false_iff.mpr c4
  subst c4
  have H1 : (some (0, 0, 1)) = some (r1, r2, r3) := by rw [if_neg (show ¬ (false = true) by decide)] at H; exact H
  clear H
  have H := H1
  clear H1
  simp only [Option.some.injEq, Prod.mk.injEq] at H
  obtain ⟨rfl, rfl, rfl⟩ := H
  go_enter Try.func48, Try.ntmps48
  go_wp2_with (first | ((with_reducible refine gate_callee (f := 78) rfl ?_); refine goesL_ (some 16) rfl rfl Try.func78 (by kernel_rfl) rfl #[.slice A0 l0.length c0] rfl (by (try simp only [List.map_toArray, List.map_cons, List.map_nil]); first | done | rfl | (simp only [List.length_drop, List.length_take]; rfl)) ?_; (with_reducible refine (spec_l20Ok.calls k _ _ l0 false _ ?side1 ?side2 A3.out).mono ?_); (case side1 => repeat (first | exact HR0.out | (with_reducible refine ay ?_ _) | (with_reducible refine az ?_ _) | (with_reducible refine ba ?_))); (case side2 => exact HC0.out); rintro e w29 ⟨rfl, hb⟩; refine ⟨_, rfl, ?_⟩; have n0_ := aa (ap (by repeat (first | (with_reducible first | exact HB.out | apply ae | apply ab | apply ac) | exact HB.out)) hb); clear HB; have HB := n0_; clear n0_; (try clear hb); (try clear hb2); (try clear hk); (try clear hi)))
  go_ret3
  exact ⟨by first | rfl | (simp [errW_none, errW_some] <;> rfl) | (simp [*, errW_none, errW_some] <;> rfl), by repeat (first | (with_reducible first | exact HB.out | apply ae | apply ab | apply ac) | exact HB.out)⟩

-- inside a hand-given walk: function 115 (impl_Spot_115)

-- inside a hand-given walk: function 106 (impl_Spot_106)

/-! ### impl_areSpots_1: function 107 -/
def impl_areSpots_1.f (a0_0 : Int) (a0_1 : Int) : Option (Bool) := (impl_ValidSpot.f a0_0 a0_1).bind fun t200 => (some (!t200))
set_option maxHeartbeats 8000000 in
set_option maxRecDepth 100000 in
theorem impl_areSpots_1.calls (a0_0 : Int) (a0_1 : Int) (r : Bool) (w : World) (h : impl_areSpots_1.f a0_0 a0_1 = some r) :
  Calls Try.prog 107 #[.agg #[.int .i64 a0_0, .int .i64 a0_1]] w fun e w' => e = .returned (.bool r) ∧ Below w.heap.size w w' := by
 have hu62 := Try.underlying62
 have HB := aa (Below.refl w.heap.size w)
 have H : ((impl_ValidSpot.f a0_0 a0_1).bind fun t200 => (some (!t200))) = some r := h
 clear h
 replace H := bl.mp H
 obtain ⟨t200, A20, H⟩ := H
 replace H : (some (!t200)) = some r := H
 have A2 := aa A20
 clear A20
 obtain rfl := Option.some.inj H
 go_enter Try.func107, Try.ntmps107
 go_wp2_with (first | ((with_reducible refine bi (N := 1) rfl ?_); refine box_event ?hg (N := 1) ?hd (cs := #[.int .i64 a0_0, .int .i64 a0_1]) (t := 62) ?hr ?_; (case hd => rfl); (case hg => rfl); (case hr => first | (go_simp; done) | (go_simp; rfl)); intro gb199 hg w3 hbox hb; have n0_ := aa (ap (by repeat (first | (with_reducible first | exact HB.out | apply ae | apply ab | apply ac) | exact HB.out)) hb); have n1_ := aa (hbox); have n2_ := aa ((by rw [hg]; exact (aw (by repeat (first | (with_reducible first | exact HB.out | apply ae | apply ab | apply ac) | exact HB.out))) : w.heap.size ≤ gb199)); have n3_ := aa ((by rw [hg]; exact (aw (by repeat (first | (with_reducible first | exact HB.out | apply ae | apply ab | apply ac) | exact HB.out))) : w.heap.size ≤ gb199)); clear HB; have HB := n0_; have BK199 := n1_; have GW199 := n2_; have GE199 := n3_; clear n0_ n1_ n2_ n3_; clear hb hbox hg; have hcz4_0 : w3.cell? ⟨gb199, 0, none⟩ = some (.int .i64 a0_0) := (am BK199.out 0).trans rfl; have hcz4_1 : w3.cell? ⟨gb199, 1, none⟩ = some (.int .i64 a0_1) := (am BK199.out 1).trans rfl; have hfz4_0 := ao BK199.out 0; have hfz4_1 := ao BK199.out 1) | ((with_reducible refine gate_callee (f := 82) rfl ?_); refine goesL_ (some 4) rfl rfl Try.func82 (by kernel_rfl) rfl #[.agg #[.int .i64 a0_0, .int .i64 a0_1]] rfl (by (try simp only [List.map_toArray, List.map_cons, List.map_nil]); first | done | rfl | (simp only [List.length_drop, List.length_take]; rfl)) ?_; (with_reducible refine (impl_ValidSpot.calls a0_0 a0_1 t200 _ A2.out).mono ?_); rintro e w5 ⟨rfl, hb⟩; refine ⟨_, rfl, ?_⟩; have n0_ := aa (bf (g := gb199) (o := .cells #[.int .i64 a0_0, .int .i64 a0_1] 62 (0, 0)) (by (with_reducible repeat (first | refine aj ?_ _ | refine al ?_ | refine ak ?_ _)); exact BK199.out) hb); have n1_ := aa (ap (by repeat (first | (with_reducible first | exact HB.out | apply ae | apply ab | apply ac | refine ai ?_ GE199.out) | exact HB.out)) hb); clear BK199; clear HB; have BK199 := n0_; have HB := n1_; clear n0_ n1_; (try clear hb); (try clear hb2); (try clear hk); (try clear hi)))
 go_ret
 exact ⟨by first | rfl | (simp [errW_none, errW_some] <;> rfl) | (simp [*, errW_none, errW_some] <;> rfl), by repeat (first | (with_reducible first | exact HB.out | apply ae | apply ab | apply ac | refine ai ?_ GE199.out) | exact HB.out)⟩

/-! ### impl_areSpots: function 91 -/
/-! slices.IndexFunc and slices.ContainsFunc of []impl.Spot at a predicate that may lay blocks of its own -/
theorem spots_mem (l0 : List S62) (kk : Nat) (h : kk < l0.length) : rd_T62 l0 (kk : Int) ∈ l0 := by
 unfold rd_T62
 rw [Int.toNat_natCast, List.getD_eq_getElem?_getD, List.getElem?_eq_getElem h]
 exact List.getElem_mem _
theorem spots_none (p : S62 → Bool) (l0 : List S62) (h : ∀ j : Nat, j < l0.length → p (rd_T62 l0 (j : Int)) = false) : l0.any p = false := by
 rw [List.any_eq_false]
 intro x hx
 obtain ⟨j, hj, rfl⟩ := List.getElem_of_mem hx
 have := h j hj
 unfold rd_T62 at this
 rw [Int.toNat_natCast, List.getD_eq_getElem?_getD, List.getElem?_eq_getElem hj] at this
 simpa using this
set_option maxHeartbeats 2000000 in
theorem spots_IndexFunc (p : S62 → Bool) (g : Nat) (lb : Array Value) (eg : ∀ args w, (callFunc g args).run Try.prog w = .ok (.enter g args) w) (A0 : Option Addr) (c0 : Nat) (l0 : List S62) (w : World) (hr0 : Kd.C k62 w A0 l0.length l0)
  (hp : ∀ (x : S62) (W : World), Below w.heap.size w W → Calls Try.prog g (#[.agg #[.int .i64 x.f0, .int .i64 x.f1]] ++ lb) W fun e w' => e = .returned (.bool (p x)) ∧ Below w.heap.size w w') :
  Calls Try.prog 115 #[.slice A0 l0.length c0, .func (.func g) #[] lb] w fun e w' => (∃ r : Int, e = .returned (.int .i64 r) ∧ decide (0 ≤ r) = l0.any p) ∧ Below w.heap.size w w' := by
 have hbig := Kd.C_max hr0
 have hlen : (l0.length : Int) ≤ 9223372036854775807 := by omega
 have HR := aa hr0
 have HP := aa hp
 clear hr0 hp
 go_enter Try.func115, Try.ntmps115
 go_wp2
 go_loopg [5, 8] l0.length (fun gg _ s8 wr => ∃ kk : Nat, kk ≤ l0.length ∧ l0.length - kk ≤ gg ∧ s8 = .int .i64 kk ∧ Aside0 (Below w.heap.size w wr) ∧ Aside0 (∀ j : Nat, j < kk → p (rd_T62 l0 (j : Int)) = false))
 case atStart => exact ⟨0, Nat.zero_le _, by omega, rfl, ⟨Below.refl _ w⟩, ⟨fun j hj => absurd hj (Nat.not_lt_zero _)⟩⟩
 case round =>
  obtain ⟨kk, hkk, hg, rfl, BW, A⟩ := hrel
  by_cases hlt : kk < l0.length
  ·have hltz : (kk : Int) < (l0.length : Int) := by omega
   obtain ⟨ad, hA, hx0, hx1⟩ := at_T62 (Kd.C_below HR.out BW.out) (kk : Int) (by omega) hltz
   cases hA
   have hcall := HP.out (rd_T62 l0 (kk : Int)) wr BW.out
   have hm0 := spots_mem l0 kk hlt
   have hs0 : p (rd_T62 l0 (kk : Int)) = p (rd_T62 l0 (kk : Int)) := rfl
   rw [Int.toNat_natCast] at hx0 hx1
   generalize hy : rd_T62 l0 (kk : Int) = y at hx0 hx1 hcall hm0
   have B := aa hy
   have M := aa hm0
   clear hy hs0 hm0
   cases hq : p y with
   | true =>
    rw [hq] at hcall
    go_wp2_with ((with_reducible refine hcall.mono ?_); rintro e w' ⟨rfl, hb'⟩)
    go_ret
    refine ⟨⟨(kk : Int), rfl, ?_⟩, hb'⟩
    rw [List.any_eq_true.2 ⟨y, M.out, hq⟩]
    exact decide_eq_true (by omega)
   | false =>
    rw [hq] at hcall
    go_wp2_with ((with_reducible refine hcall.mono ?_); rintro e w' ⟨rfl, hb'⟩)
    go_roundg (l0.length - (kk + 1))
    case measure => omega
    case rel =>
     refine ⟨kk + 1, by omega, by omega, by go_num, ⟨hb'⟩, ⟨fun j hj => ?_⟩⟩
     by_cases e : j = kk
     ·subst e; rw [B.out]; exact hq
     ·exact A.out j (by omega)
  ·have hltz : ¬ (kk : Int) < (l0.length : Int) := by omega
   go_wp2
   go_ret
   refine ⟨⟨-1, rfl, ?_⟩, BW.out⟩
   rw [spots_none p l0 (fun j hj => A.out j (by omega))]
   rfl
set_option maxHeartbeats 1000000 in
theorem spots_ContainsFunc (p : S62 → Bool) (g : Nat) (lb : Array Value) (eg : ∀ args w, (callFunc g args).run Try.prog w = .ok (.enter g args) w) (A0 : Option Addr) (c0 : Nat) (l0 : List S62) (w : World) (hr0 : Kd.C k62 w A0 l0.length l0)
  (hp : ∀ (x : S62) (W : World), Below w.heap.size w W → Calls Try.prog g (#[.agg #[.int .i64 x.f0, .int .i64 x.f1]] ++ lb) W fun e w' => e = .returned (.bool (p x)) ∧ Below w.heap.size w w') :
  Calls Try.prog 106 #[.slice A0 l0.length c0, .func (.func g) #[] lb] w fun e w' => e = .returned (.bool (l0.any p)) ∧ Below w.heap.size w w' := by
 have hcon := spots_IndexFunc p g lb eg A0 c0 l0 w hr0 hp
 generalize l0.any p = b at hcon
 clear hr0 hp
 go_enter Try.func106, Try.ntmps106
 go_wp2_with (go_at_call 115; refine hcon.mono ?_; rintro e w' ⟨⟨q, rfl, hq⟩, hb⟩; have HB := aa hb; have HQ := aa hq; clear hb hq)
 go_ret
 refine ⟨?_, HB.out⟩
 rw [← HQ.out]
 rfl
def okSpot (x : S62) : Bool := decide (-324000 ≤ x.f0 ∧ x.f0 ≤ 324000) && decide (-648000 ≤ x.f1 ∧ x.f1 ≤ 647999)
theorem spots_lit (x : S62) : impl_areSpots_1.f x.f0 x.f1 = some (!okSpot x) := by
 unfold impl_areSpots_1.f impl_ValidSpot.f okSpot
 simp only [within_is, Option.bind_some]
 by_cases h2 : -324000 ≤ x.f0 ∧ x.f0 ≤ 324000 <;> simp [h2]
def impl_areSpots.f (l0 : List S62) : Option (Bool) := some (l0.all okSpot)
set_option maxHeartbeats 1000000 in
theorem impl_areSpots.calls (A0 : Option Addr) (c0 : Nat) (l0 : List S62) (r : Bool) (w : World) (hr0 : Kd.C k62 w A0 l0.length l0) (hc0 : l0.length ≤ c0) (h : impl_areSpots.f l0 = some r) :
  Calls Try.prog 91 #[.slice A0 l0.length c0] w fun e w' => e = .returned (.bool r) ∧ Below w.heap.size w w' := by
 have hres : (!l0.any fun x => !okSpot x) = r := by
  have := Option.some.inj h; rw [← this, List.all_eq_not_any_not]
 clear h
 have eg : ∀ args w, (callFunc 107 args).run Try.prog w = .ok (.enter 107 args) w := Go.Proofs.Ytncejfhmachapaa.Hand.enters Try.func107 (by kernel_rfl) rfl
 have hcon := spots_ContainsFunc (fun x => !okSpot x) 107 #[] eg A0 c0 l0 w hr0
  (fun x W hb => (impl_areSpots_1.calls x.f0 x.f1 (!okSpot x) W (spots_lit x)).mono fun e w' hh => ⟨hh.1, hb.trans (hh.2.mono hb.size)⟩)
 generalize (l0.any fun x => !okSpot x) = b at hcon hres
 have HE := aa hres
 clear hr0 hres
 go_enter Try.func91, Try.ntmps91
 go_wp2_with (go_at_call 106; refine hcon.mono ?_; rintro e w' ⟨rfl, hb⟩; have HB := aa hb; clear hb)
 go_ret
 exact ⟨by rw [← HE.out]; rfl, HB.out⟩


/-! ### impl_absolute: function 65 -/
def impl_absolute.f (a0 : Int) : Option (Int) := some (mx a0 (wrap64 (-a0)))
set_option maxHeartbeats 8000000 in
set_option maxRecDepth 100000 in
theorem impl_absolute.calls (a0 : Int) (r : Int) (w : World) (h : impl_absolute.f a0 = some r) :
  Calls Try.prog 65 #[.int .i64 a0] w fun e w' => e = .returned (.int .i64 r) ∧ Below w.heap.size w w' := by
 have HB := aa (Below.refl w.heap.size w)
 have H : (some (mx a0 (wrap64 (-a0)))) = some r := h
 clear h
 obtain ⟨ji2, hji2⟩ : ∃ j_ : Int, (mx a0 (wrap64 (-a0))) = j_ := ⟨_, rfl⟩
 replace H : (some ji2) = some r := by first | (rw [hji2] at H; exact H) | (simp only [hji2] at H ⊢; exact H)
 have hji2_ : (if a0 < (wrap64 (-a0)) then (wrap64 (-a0)) else a0) = ji2 := hji2
 obtain rfl := Option.some.inj H
 go_enter Try.func65, Try.ntmps65
 go_wp2
 go_ret
 exact ⟨by first | rfl | (simp [errW_none, errW_some] <;> rfl) | (simp only [← hji2]; first | rfl | (simp [errW_none, errW_some] <;> rfl)) | (simp [*, errW_none, errW_some] <;> rfl), by repeat (first | (with_reducible first | exact HB.out | apply ae | apply ab | apply ac) | exact HB.out)⟩

/-! ### impl_moment_size: function 93 -/
def impl_moment_size.f (a0_0 : Int) (a0_1 : Int) (a0_2 : Int) : Option (Int) := (impl_absolute.f a0_0).bind fun t202 => ((impl_absolute.f a0_1).bind fun t203 => ((impl_absolute.f a0_2).bind fun t204 => (some (wrap64 ((wrap64 (t202 + t203)) + t204)))))
def impl_moment_size.T1 : Bool × List (List Nat × List Nat) := (true, [([], []), ([0], [0]), ([1], [1]), ([], []), ([3], [3]), ([4, 2], [4]), ([2, 5], [2, 5]), ([], []), ([7], [7]), ([8, 5], [8]), ([6, 9], [6, 9]), ([10, 9, 0, 1, 2, 3, 4, 5, 6, 7, 8, 9, 10], [10])])
def impl_moment_size.B1 : List Nat := [0, 1, 3, 0, 8, 31, 63, 0, 128, 447, 1023, 2047]
theorem impl_moment_size.tab1 : rtab .any (opsOf Try.f93 1) = impl_moment_size.T1 := by kernel_rfl
theorem impl_moment_size.bits1 : waitsOk impl_moment_size.T1.2 impl_moment_size.B1 = true := by kernel_rfl
set_option maxHeartbeats 8000000 in
set_option maxRecDepth 100000 in
theorem impl_moment_size.calls (a0_0 : Int) (a0_1 : Int) (a0_2 : Int) (r : Int) (w : World) (h : impl_moment_size.f a0_0 a0_1 a0_2 = some r) :
  Calls Try.prog 93 #[.agg #[.int .i64 a0_0, .int .i64 a0_1, .int .i64 a0_2]] w fun e w' => e = .returned (.int .i64 r) ∧ Below w.heap.size w w' := by
 have hu81 := Try.underlying81
 have HB := aa (Below.refl w.heap.size w)
 have H : ((impl_absolute.f a0_0).bind fun t202 => ((impl_absolute.f a0_1).bind fun t203 => ((impl_absolute.f a0_2).bind fun t204 => (some (wrap64 ((wrap64 (t202 + t203)) + t204)))))) = some r := h
 clear h
 replace H := bl.mp H
 obtain ⟨t202, A20, H⟩ := H
 (try dsimp only at H)
 have A2 := aa A20
 clear A20
 replace H := bl.mp H
 obtain ⟨t203, A30, H⟩ := H
 replace H : ((impl_absolute.f a0_2).bind fun t204 => (some (wrap64 ((wrap64 (t202 + t203)) + t204)))) = some r := H
 have A3 := aa A30
 clear A30
 replace H := bl.mp H
 obtain ⟨t204, A40, H⟩ := H
 replace H : (some (wrap64 ((wrap64 (t202 + t203)) + t204))) = some r := H
 have A4 := aa A40
 clear A40
 obtain rfl := Option.some.inj H
 go_enter Try.func93, Try.ntmps93
 try go_wp2_with (first | ((with_reducible refine bi (N := 1) rfl ?_); refine box_event ?hg (N := 1) ?hd (cs := #[.int .i64 a0_0, .int .i64 a0_1, .int .i64 a0_2]) (t := 81) ?hr ?_; (case hd => rfl); (case hg => rfl); (case hr => first | (go_simp; done) | (go_simp; rfl)); intro gb201 hg w5 hbox hb; have n0_ := aa (ap (by repeat (first | (with_reducible first | exact HB.out | apply ae | apply ab | apply ac) | exact HB.out)) hb); have n1_ := aa (hbox); have n2_ := aa ((by rw [hg]; exact (aw (by repeat (first | (with_reducible first | exact HB.out | apply ae | apply ab | apply ac) | exact HB.out))) : w.heap.size ≤ gb201)); have n3_ := aa ((by rw [hg]; exact (aw (by repeat (first | (with_reducible first | exact HB.out | apply ae | apply ab | apply ac) | exact HB.out))) : w.heap.size ≤ gb201)); clear HB; have HB := n0_; have BK201 := n1_; have GW201 := n2_; have GE201 := n3_; clear n0_ n1_ n2_ n3_; clear hb hbox hg))
 have n0_ := aa (al BK201.out)
 have n1_ := aa (ac HB.out)
 clear BK201
 clear HB
 have BK201 := n0_
 have HB := n1_
 clear n0_ n1_
 refine start_ (n := 12) (S := fun w' => w'.cell? ⟨gb201, 0, none⟩ = some (.int .i64 a0_0) ∧ w'.cell? ⟨gb201, 1, none⟩ = some (.int .i64 a0_1) ∧ w'.cell? ⟨gb201, 2, none⟩ = some (.int .i64 a0_2)) (ds := []) #[false, false, false, false, false, false, false, false, false, false, false, false] (by kernel_rfl) rfl rfl ⟨(am BK201.out 0).trans rfl, (am BK201.out 1).trans rfl, (am BK201.out 2).trans rfl⟩ (fun hHeld => ?_); refine with_tabW impl_moment_size.tab1 impl_moment_size.bits1 (fun HT_ HW_ => ?_)
 generalize w5.drew = w6 at BK201 HB hHeld ⊢
 refine pure_ (i := 0) (N := some 3) (v := ?_) (a' := ?_) #[true, false, false, false, false, false, false, false, false, false, false, false] rfl rfl (any_of HT_.out (by kernel_rfl)) (fun _ _ _ h => h) (Or.inl ⟨by rfl, ?_⟩) ?_ ?_
 rotate_left
 ·intro w'
  go_simp
  with_reducible rfl
 rotate_left
 ·simp only [Act.put, List.setIfInBounds_toArray, List.set_cons_zero, List.set_cons_succ, i64_w, i32_w]
  rfl
 refine pure_ (i := 3) (N := some 6) (v := ?_) (a' := ?_) #[true, false, false, true, false, false, false, false, false, false, false, false] rfl rfl (any_of HT_.out (by kernel_rfl)) (fun _ _ _ h => h) (Or.inl ⟨by rfl, ?_⟩) ?_ ?_
 rotate_left
 ·intro w'
  go_simp
  with_reducible rfl
 rotate_left
 ·simp only [Act.put, List.setIfInBounds_toArray, List.set_cons_zero, List.set_cons_succ, i64_w, i32_w]
  rfl
 refine pure_ (i := 7) (N := some 10) (v := ?_) (a' := ?_) #[true, false, false, true, false, false, false, true, false, false, false, false] rfl rfl (any_of HT_.out (by kernel_rfl)) (fun _ _ _ h => h) (Or.inl ⟨by rfl, ?_⟩) ?_ ?_
 rotate_left
 ·intro w'
  go_simp
  with_reducible rfl
 rotate_left
 ·simp only [Act.put, List.setIfInBounds_toArray, List.set_cons_zero, List.set_cons_succ, i64_w, i32_w]
  rfl
 refine take_ (i := 1) (N := some 4) (v := ?_) (a' := ?_) #[true, true, false, true, false, false, false, true, false, false, false, false] rfl rfl (take_ofW HT_.out HW_.out (by kernel_rfl)) (fun _ _ _ h => h) (Or.inl ⟨by rfl, ?_⟩) hHeld ?_ ?_
 rotate_left
 ·rintro w' ⟨s0, s1, s2⟩
  go_simp
  with_reducible rfl
 rotate_left
 ·simp only [Act.put, List.setIfInBounds_toArray, List.set_cons_zero, List.set_cons_succ, i64_w, i32_w]
  rfl
 refine take_ (i := 4) (N := some 7) (v := ?_) (a' := ?_) #[true, true, false, true, true, false, false, true, false, false, false, false] rfl rfl (take_ofW HT_.out HW_.out (by kernel_rfl)) (fun _ _ _ h => h) (Or.inl ⟨by rfl, ?_⟩) hHeld ?_ ?_
 rotate_left
 ·rintro w' ⟨s0, s1, s2⟩
  go_simp
  with_reducible rfl
 rotate_left
 ·simp only [Act.put, List.setIfInBounds_toArray, List.set_cons_zero, List.set_cons_succ, i64_w, i32_w]
  rfl
 refine take_ (i := 8) (N := some 11) (v := ?_) (a' := ?_) #[true, true, false, true, true, false, false, true, true, false, false, false] rfl rfl (take_ofW HT_.out HW_.out (by kernel_rfl)) (fun _ _ _ h => h) (Or.inl ⟨by rfl, ?_⟩) hHeld ?_ ?_
 rotate_left
 ·rintro w' ⟨s0, s1, s2⟩
  go_simp
  with_reducible rfl
 rotate_left
 ·simp only [Act.put, List.setIfInBounds_toArray, List.set_cons_zero, List.set_cons_succ, i64_w, i32_w]
  rfl
 refine one_ (i := 2) (N := some 5) #[true, true, true, true, true, false, false, true, true, false, false, false] rfl rfl (one_of HT_.out (by kernel_rfl)) (by decide) (fun K hK => ?_)
 refine goes_ Try.func65 (by kernel_rfl) rfl #[.int .i64 a0_0] (by rfl) rfl rfl (by (try simp only [List.map_toArray, List.map_cons, List.map_nil]); first | done | rfl | (simp only [List.length_drop, List.length_take]; rfl)) ?_
 with_reducible refine (impl_absolute.calls a0_0 t202 _ A2.out).mono ?_
 rintro e w7 ⟨rfl, hb⟩
 refine ⟨_, rfl, ?_⟩
 have n0_ := aa (bf (g := gb201) (o := .cells #[.int .i64 a0_0, .int .i64 a0_1, .int .i64 a0_2] 81 (0, 0)) (by (with_reducible repeat (first | refine aj ?_ _ | refine al ?_ | refine ak ?_ _)); exact BK201.out) hb)
 have n1_ := aa (ap (by repeat (first | (with_reducible first | exact HB.out | apply ae | apply ab | apply ac | refine ai ?_ GE201.out) | exact HB.out)) hb)
 clear BK201
 clear HB
 have BK201 := n0_
 have HB := n1_
 clear n0_ n1_
 (try clear hb)
 (try clear hb2)
 (try clear hk)
 (try clear hi)
 refine hK.out _ _ ⟨(am BK201.out 0).trans rfl, (am BK201.out 1).trans rfl, (am BK201.out 2).trans rfl⟩ (fun hHeld => ?_)
 clear hK K
 refine norm_ (a' := ?_) ?_ ?_
 rotate_left
 ·show Act.put _ (some 5) _ = _
  simp only [Act.put, List.setIfInBounds_toArray, List.set_cons_zero, List.set_cons_succ, i64_w, i32_w]
  rfl
 refine one_ (i := 5) (N := some 8) #[true, true, true, true, true, true, false, true, true, false, false, false] rfl rfl (one_of HT_.out (by kernel_rfl)) (by decide) (fun K hK => ?_)
 refine goes_ Try.func65 (by kernel_rfl) rfl #[.int .i64 a0_1] (by rfl) rfl rfl (by (try simp only [List.map_toArray, List.map_cons, List.map_nil]); first | done | rfl | (simp only [List.length_drop, List.length_take]; rfl)) ?_
 with_reducible refine (impl_absolute.calls a0_1 t203 _ A3.out).mono ?_
 rintro e w8 ⟨rfl, hb⟩
 refine ⟨_, rfl, ?_⟩
 have n0_ := aa (bf (g := gb201) (o := .cells #[.int .i64 a0_0, .int .i64 a0_1, .int .i64 a0_2] 81 (0, 0)) (by (with_reducible repeat (first | refine aj ?_ _ | refine al ?_ | refine ak ?_ _)); exact BK201.out) hb)
 have n1_ := aa (ap (by repeat (first | (with_reducible first | exact HB.out | apply ae | apply ab | apply ac | refine ai ?_ GE201.out) | exact HB.out)) hb)
 clear BK201
 clear HB
 have BK201 := n0_
 have HB := n1_
 clear n0_ n1_
 (try clear hb)
 (try clear hb2)
 (try clear hk)
 (try clear hi)
 refine hK.out _ _ ⟨(am BK201.out 0).trans rfl, (am BK201.out 1).trans rfl, (am BK201.out 2).trans rfl⟩ (fun hHeld => ?_)
 clear hK K
 refine norm_ (a' := ?_) ?_ ?_
 rotate_left
 ·show Act.put _ (some 8) _ = _
  simp only [Act.put, List.setIfInBounds_toArray, List.set_cons_zero, List.set_cons_succ, i64_w, i32_w]
  rfl
 refine pure_ (i := 6) (N := some 9) (v := ?_) (a' := ?_) #[true, true, true, true, true, true, true, true, true, false, false, false] rfl rfl (any_of HT_.out (by kernel_rfl)) (fun _ _ _ h => h) (Or.inl ⟨by rfl, ?_⟩) ?_ ?_
 rotate_left
 ·intro w'
  go_simp
  with_reducible rfl
 rotate_left
 ·simp only [Act.put, List.setIfInBounds_toArray, List.set_cons_zero, List.set_cons_succ, i64_w, i32_w]
  rfl
 refine one_ (i := 9) (N := some 12) #[true, true, true, true, true, true, true, true, true, true, false, false] rfl rfl (one_of HT_.out (by kernel_rfl)) (by decide) (fun K hK => ?_)
 refine goes_ Try.func65 (by kernel_rfl) rfl #[.int .i64 a0_2] (by rfl) rfl rfl (by (try simp only [List.map_toArray, List.map_cons, List.map_nil]); first | done | rfl | (simp only [List.length_drop, List.length_take]; rfl)) ?_
 with_reducible refine (impl_absolute.calls a0_2 t204 _ A4.out).mono ?_
 rintro e w9 ⟨rfl, hb⟩
 refine ⟨_, rfl, ?_⟩
 have n0_ := aa (bf (g := gb201) (o := .cells #[.int .i64 a0_0, .int .i64 a0_1, .int .i64 a0_2] 81 (0, 0)) (by (with_reducible repeat (first | refine aj ?_ _ | refine al ?_ | refine ak ?_ _)); exact BK201.out) hb)
 have n1_ := aa (ap (by repeat (first | (with_reducible first | exact HB.out | apply ae | apply ab | apply ac | refine ai ?_ GE201.out) | exact HB.out)) hb)
 clear BK201
 clear HB
 have BK201 := n0_
 have HB := n1_
 clear n0_ n1_
 (try clear hb)
 (try clear hb2)
 (try clear hk)
 (try clear hi)
 refine hK.out _ _ ⟨(am BK201.out 0).trans rfl, (am BK201.out 1).trans rfl, (am BK201.out 2).trans rfl⟩ (fun hHeld => ?_)
 clear hK K
 refine norm_ (a' := ?_) ?_ ?_
 rotate_left
 ·show Act.put _ (some 12) _ = _
  simp only [Act.put, List.setIfInBounds_toArray, List.set_cons_zero, List.set_cons_succ, i64_w, i32_w]
  rfl
 refine pure_ (i := 10) (N := some 13) (v := ?_) (a' := ?_) #[true, true, true, true, true, true, true, true, true, true, true, false] rfl rfl (any_of HT_.out (by kernel_rfl)) (fun _ _ _ h => h) (Or.inl ⟨by rfl, ?_⟩) ?_ ?_
 rotate_left
 ·intro w'
  go_simp
  with_reducible rfl
 rotate_left
 ·simp only [Act.put, List.setIfInBounds_toArray, List.set_cons_zero, List.set_cons_succ, i64_w, i32_w]
  rfl
 refine pure_ (i := 11) (N := some 2) (v := ?_) (a' := ?_) #[true, true, true, true, true, true, true, true, true, true, true, true] rfl rfl (any_of HT_.out (by kernel_rfl)) (fun _ _ _ h => h) (Or.inl ⟨by rfl, ?_⟩) ?_ ?_
 rotate_left
 ·intro w'
  go_simp
  with_reducible rfl
 rotate_left
 ·simp only [Act.put, List.setIfInBounds_toArray, List.set_cons_zero, List.set_cons_succ, i64_w, i32_w]
  rfl
 refine done_ (done_of HT_.out (by kernel_rfl)) ?_
 try go_wp2
 go_ret
 exact ⟨by first | rfl | (simp [errW_none, errW_some] <;> rfl) | (simp [*, errW_none, errW_some] <;> rfl), by repeat (first | (with_reducible first | exact HB.out | apply ae | apply ab | apply ac | refine ai ?_ GE201.out) | exact HB.out)⟩

end Go.Proofs.Ytncejfhmachapaa.QFnBalanceOf
