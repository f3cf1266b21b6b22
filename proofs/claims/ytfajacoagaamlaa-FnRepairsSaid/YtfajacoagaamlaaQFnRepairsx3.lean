/- Walks of the Go functions that the law FnRepairs reaches: written by a program of this session. -/
import Derived.Test.YtfajacoagaamlaaQFnRepairsx0
import Derived.Test.YtfajacoagaamlaaQFnRepairsx2
namespace Go.Proofs.Ytfajacoagaamlaa.QFnRepairs
open Go.RowKit Go.Proofs.YtfajacoagaamlaaW.PrintWords Go.Proofs.YtfajacoagaamlaaW.PrintLast Go.Proofs.YtfajacoagaamlaaW.PrintMore
attribute [local go_sem] max2_int min2_int max_two min_two max_three min_three max_four min_four   -- for this text's walks alone
open Go.Proofs.YtfajacoagaamlaaW.PrintWords renaming add_block → bg, below_alloc → ah, below_drew1 → ag, below_set → ao, below_size → ar, below_step → ay, blk_alloc → bi, blk_cell → be, blk_drew → bk, blk_drewN → bh, blk_frozen → bb, pw_below_drewN → ae
open Go.Proofs.YtfajacoagaamlaaW.PrintWords.Aside0 renaming mk → aa
open Go.Proofs.YtfajacoagaamlaaW.PrintWords.Kd renaming C_alloc → ak, C_below → bl, C_drew → am, C_drewN → al, R_alloc → ab, R_below → aq, R_drew → af, R_drewN → ac, R_lower → bd, R_mono → an, R_reads' → ai, R_slice → ap, at_int → bj
open Go.World renaming drewN_drewN → aj
open Option renaming bind_eq_some_iff → bm
set_option linter.unusedVariables false
set_option linter.unusedSimpArgs false

/-! ### spec_ReadStates: function 27 -/
def spec_ReadStates.l0 : Nat → ByteArray → List Int → Int → Option (List Int × Bool)
 | 0, _, _, _ => none
 | k + 1, x0, x4, x5 => if x5 < (x0.size : Int) then (if 0 ≤ x5 then (if (bt x0 x5) = 111 then (if x4.length < 17592186044416 then (spec_ReadStates.l0 k x0 (x4 ++ [0]) (wrap64 (x5 + 1))) else (none)) else (if (bt x0 x5) = 100 then (if x4.length < 17592186044416 then (spec_ReadStates.l0 k x0 (x4 ++ [1]) (wrap64 (x5 + 1))) else (none)) else (if (bt x0 x5) = 99 then (if x4.length < 17592186044416 then (spec_ReadStates.l0 k x0 (x4 ++ [2]) (wrap64 (x5 + 1))) else (none)) else (if (bt x0 x5) = 110 then (if x4.length < 17592186044416 then (spec_ReadStates.l0 k x0 (x4 ++ [3]) (wrap64 (x5 + 1))) else (none)) else (some (([] : List Int), false)))))) else (none)) else ((spec_l22Ok.f k x4).bind fun t127 => (if t127 = true then (some (x4, true)) else (some (([] : List Int), false))))
def spec_ReadStates.f (k : Nat) (a0 : ByteArray) : Option (List Int × Bool) := spec_ReadStates.l0 k a0 (([] : List Int)) 0
theorem spec_ReadStates.mono_l : ∀ k, (∀ y0 y1 y2, LeO (spec_ReadStates.l0 k y0 y1 y2) (spec_ReadStates.l0 (k + 1) y0 y1 y2))
 | 0 => fun _ _ _ r h => by simp [spec_ReadStates.l0] at h
 | k + 1 => by
  have ih0 := spec_ReadStates.mono_l k
  ·intro y0 y1 y2
   unfold spec_ReadStates.l0
   repeat' first
   | (with_reducible exact ih0 _ _ _)
   | (with_reducible exact spec_l22Ok.mono _ _)
   | (with_reducible exact LeO.refl _)
   | (with_reducible exact LeO.none _)
   | (with_reducible refine LeO.ite ?_ ?_)
   | (with_reducible refine LeO.bind ?_ (fun _ => ?_))
   | exact ih0 _ _ _
   | exact spec_l22Ok.mono _ _
   | exact LeO.none _
   | refine LeO.ite ?_ ?_
   | refine LeO.bind ?_ (fun _ => ?_)
theorem spec_ReadStates.mono : ∀ a0 k, LeO (spec_ReadStates.f k a0) (spec_ReadStates.f (k + 1) a0) := by
 intro a0 k
 have ih0 := spec_ReadStates.mono_l k
 unfold spec_ReadStates.f
 repeat' first
   | (with_reducible exact ih0 _ _ _)
   | (with_reducible exact spec_l22Ok.mono _ _)
   | (with_reducible exact LeO.refl _)
   | (with_reducible exact LeO.none _)
   | (with_reducible refine LeO.ite ?_ ?_)
   | (with_reducible refine LeO.bind ?_ (fun _ => ?_))
   | exact ih0 _ _ _
   | exact spec_l22Ok.mono _ _
   | exact LeO.none _
   | refine LeO.ite ?_ ?_
   | refine LeO.bind ?_ (fun _ => ?_)
set_option maxHeartbeats 8000000 in
set_option maxRecDepth 100000 in
theorem spec_ReadStates.calls (k : Nat) (a0 : ByteArray) (r1 : List Int) (r2 : Bool) (w : World) (h : spec_ReadStates.f k a0 = some (r1, r2)) :
  Calls Try.prog 27 #[.string a0] w fun e w' => ∃ v0_ : Value, e = .returned (.tuple #[v0_, .bool r2]) ∧ Kd.R (Kd.int .i64) 2 w' w.heap.size (fun _ => True) v0_ r1 ∧ Below w.heap.size w w' := by
 have HB := aa (Below.refl w.heap.size w)
 have H : (spec_ReadStates.l0 k a0 (([] : List Int)) 0) = some (r1, r2) := h
 clear h
 obtain ⟨y124, hy124⟩ : ∃ y_ : List Int, y_ = (([] : List Int)) := ⟨_, rfl⟩
 replace H : (spec_ReadStates.l0 k a0 y124 0) = some (r1, r2) := by first | (rw [hy124]; with_reducible exact H) | (have H2_ := (Option.bind_some _ _).symm.trans H; rw [hy124]; with_reducible exact H2_) | (have H2_ := (Option.bind_some _ _).symm.trans H; with_reducible exact H2_) | with_reducible exact H | (rw [hy124]; exact H) | exact H
 have Ny124 := aa hy124
 clear hy124
 have H' := aa H
 clear H
 go_enter Try.func27, Try.ntmps27
 go_wp2_with (first | ((with_reducible refine gate_dst (N := 6) rfl ?_); refine Kd.R_lit (Kd.int .i64) _ 2 ?hg (N := 6) ?hd (xs := ([] : List Int)) (inner := []) (ok := fun _ => True) (okp := fun _ => True) ?hr ?hp (fun _ hk => hk) trivial (Below.refl _ _) (Nat.le_refl _) (by simp) ?_; (case hd => rfl); (case hg => rfl); (case hr => first | (go_simp; done) | (go_simp; rfl)); (case hp => exact (Reps.none _ _)); intro v125 w2 ho3 hb hg_ hnew_; clear hg_ hnew_; (first | rw [← Ny124.out] at ho3 | (simp only [Int.reduceToNat] at ho3; rw [← Ny124.out] at ho3)); have n0_ := aa (bd ho3 (ar (by repeat (first | (with_reducible first | exact HB.out | apply ah | apply ae | apply ag) | exact HB.out)))); have n1_ := aa (ay (by repeat (first | (with_reducible first | exact HB.out | apply ah | apply ae | apply ag) | exact HB.out)) hb); clear HB; have HO126 := n0_; have HB := n1_; clear n0_ n1_; clear hb ho3))
 go_loopg [4, 5] k (fun kq v4 v5 w' => ∃ (x4_1 : List Int) (x5_1 : Int), v5 = .int .i64 x5_1 ∧ Aside0 (spec_ReadStates.l0 kq a0 x4_1 x5_1 = some (r1, r2)) ∧ Aside0 (kq ≤ k) ∧ Aside0 (Kd.R (Kd.int .i64) 2 w' w.heap.size (fun _ => True) v4 x4_1) ∧ Aside0 (Below w.heap.size w w'))
 case atStart => exact ⟨(y124), (0), (by first | rfl | (simp; done) | (simp [*]; done)), H', ⟨Nat.le_refl _⟩, ⟨by (with_reducible repeat (first | apply ab | apply ac | apply af)); exact HO126.out⟩, ⟨by repeat (first | (with_reducible first | exact HB.out | apply ah | apply ae | apply ag) | exact HB.out)⟩⟩
 case round =>
  clear H'
  try clear c2
  try clear p2
  obtain ⟨x4_1, x5_1, rfl, HA, HK1, HO_4, HB⟩ := hrel
  cases gk with
  | zero => exact absurd HA.out (by simp [spec_ReadStates.l0])
  | succ k1 =>
   have H := HA.out
   clear HA
   simp only [spec_ReadStates.l0] at H
   by_cases c4 : x5_1 < (a0.size : Int)
   ·rw [if_pos c4] at H
    have c4b0 : decide (x5_1 < (a0.size : Int)) = true := decide_eq_true c4
    clear c4
    by_cases c5 : 0 ≤ x5_1
    ·rw [if_pos c5] at H
     have c5b0 : decide (0 ≤ x5_1) = true := decide_eq_true c5
     clear c5
     by_cases c7 : (bt a0 x5_1) = 111
     ·rw [if_pos c7] at H
      have c7b0 : ((bt a0 x5_1) == 111) = true := beq_iff_eq.mpr c7
      have c7b1 : ((bt a0 x5_1) != 111) = false := bne_eq_false_iff_eq.mpr c7
      clear c7
      by_cases c8 : x4_1.length < 17592186044416
      ·rw [if_pos c8] at H
       have LMc8 := aa c8
       clear c8
       obtain ⟨y128, hy128⟩ : ∃ y_ : List Int, y_ = (x4_1 ++ [0]) := ⟨_, rfl⟩
       replace H : (spec_ReadStates.l0 k1 a0 y128 (wrap64 (x5_1 + 1))) = some (r1, r2) := by first | (rw [hy128]; with_reducible exact H) | (have H2_ := (Option.bind_some _ _).symm.trans H; rw [hy128]; with_reducible exact H2_) | (have H2_ := (Option.bind_some _ _).symm.trans H; with_reducible exact H2_) | with_reducible exact H | (rw [hy128]; exact H) | exact H
       have Ny128 := aa hy128
       clear hy128
       have H' := aa H
       clear H
       have p6 : 0 ≤ (x5_1 : Int) := of_decide_eq_true (by first | (with_reducible assumption) | assumption)
       have q6 : x5_1 < (a0.size : Int) := of_decide_eq_true (by first | (with_reducible assumption) | assumption)
       have hx6 := bt_at a0 x5_1
       replace p6 := eq_true p6
       replace q6 := eq_true q6
       go_wp2_with (first | ((with_reducible refine gate_builtin (b := .append) (xs := #[.tmp 18, .tmp 19]) rfl ?_); at_builtin; refine Kd.R_append (Kd.int .i64) (w0 := w) w.heap.size rfl (.tmp 18) (.tmp 19) 22 2 (.int .i64 0) 8 rfl Try.underlying22 info2 rfl (by decide) (by omega) u4 x4_1 0 [.int .i64 0] (fun _ => True) (fun _ => False) rfl rfl ?aP (fun _ hk => hk.elim) ?aF ?aO ?aB ?aS ?aL ?_; (case aP => exact rfl); (case aB => exact (by repeat (first | (with_reducible first | exact HB.out | apply ah | apply ae | apply ag) | exact HB.out))); (case aF => exact (fun _ _ => trivial)); (case aO => exact (by (with_reducible repeat (first | apply ab | apply ac | apply af)); exact HO_4.out)); (case aS => exact (ar (by repeat (first | (with_reducible first | exact HB.out | apply ah | apply ae | apply ag) | exact HB.out)))); (case aL => have := LMc8.out; omega); intro v129 w9 ho hb hg hat; rw [← Ny128.out] at ho; have n0_ := aa (hb); have n1_ := aa (ho); clear HB; clear HO_4; have HB := n0_; have HO130 := n1_; clear n0_ n1_; clear ho hb hg hat))
       go_roundg k1
       case measure => have := HK1.out; omega
       case rel => exact ⟨(y128), (wrap64 (x5_1 + 1)), (by first | rfl | (simp; done) | (simp [*]; done)), H', ⟨by have := HK1.out; omega⟩, ⟨by (with_reducible repeat (first | apply ab | apply ac | apply af)); exact HO130.out⟩, ⟨by repeat (first | (with_reducible first | exact HB.out | apply ah | apply ae | apply ag) | exact HB.out)⟩⟩
      ·rw [if_neg c8] at H
       exact absurd H (by simp)
     ·rw [if_neg c7] at H
      have c7b0 : ((bt a0 x5_1) == 111) = false := beq_eq_false_iff_ne.mpr c7
      have c7b1 : ((bt a0 x5_1) != 111) = true := bne_iff_ne.mpr c7
      by_cases c10 : (bt a0 x5_1) = 100
      ·rw [if_pos c10] at H
       have c10b0 : ((bt a0 x5_1) == 100) = true := beq_iff_eq.mpr c10
       have c10b1 : ((bt a0 x5_1) != 100) = false := bne_eq_false_iff_eq.mpr c10
       clear c10
       by_cases c11 : x4_1.length < 17592186044416
       ·rw [if_pos c11] at H
        have LMc11 := aa c11
        clear c11
        obtain ⟨y131, hy131⟩ : ∃ y_ : List Int, y_ = (x4_1 ++ [1]) := ⟨_, rfl⟩
        replace H : (spec_ReadStates.l0 k1 a0 y131 (wrap64 (x5_1 + 1))) = some (r1, r2) := by first | (rw [hy131]; with_reducible exact H) | (have H2_ := (Option.bind_some _ _).symm.trans H; rw [hy131]; with_reducible exact H2_) | (have H2_ := (Option.bind_some _ _).symm.trans H; with_reducible exact H2_) | with_reducible exact H | (rw [hy131]; exact H) | exact H
        have Ny131 := aa hy131
        clear hy131
        have H' := aa H
        clear H
        have p6 : 0 ≤ (x5_1 : Int) := of_decide_eq_true (by first | (with_reducible assumption) | assumption)
        have q6 : x5_1 < (a0.size : Int) := of_decide_eq_true (by first | (with_reducible assumption) | assumption)
        have hx6 := bt_at a0 x5_1
        replace p6 := eq_true p6
        replace q6 := eq_true q6
        go_wp2_with (first | ((with_reducible refine gate_builtin (b := .append) (xs := #[.tmp 23, .tmp 24]) rfl ?_); at_builtin; refine Kd.R_append (Kd.int .i64) (w0 := w) w.heap.size rfl (.tmp 23) (.tmp 24) 22 2 (.int .i64 0) 8 rfl Try.underlying22 info2 rfl (by decide) (by omega) u4 x4_1 1 [.int .i64 1] (fun _ => True) (fun _ => False) rfl rfl ?aP (fun _ hk => hk.elim) ?aF ?aO ?aB ?aS ?aL ?_; (case aP => exact rfl); (case aB => exact (by repeat (first | (with_reducible first | exact HB.out | apply ah | apply ae | apply ag) | exact HB.out))); (case aF => exact (fun _ _ => trivial)); (case aO => exact (by (with_reducible repeat (first | apply ab | apply ac | apply af)); exact HO_4.out)); (case aS => exact (ar (by repeat (first | (with_reducible first | exact HB.out | apply ah | apply ae | apply ag) | exact HB.out)))); (case aL => have := LMc11.out; omega); intro v132 w12 ho hb hg hat; rw [← Ny131.out] at ho; have n0_ := aa (hb); have n1_ := aa (ho); clear HB; clear HO_4; have HB := n0_; have HO133 := n1_; clear n0_ n1_; clear ho hb hg hat))
        go_roundg k1
        case measure => have := HK1.out; omega
        case rel => exact ⟨(y131), (wrap64 (x5_1 + 1)), (by first | rfl | (simp; done) | (simp [*]; done)), H', ⟨by have := HK1.out; omega⟩, ⟨by (with_reducible repeat (first | apply ab | apply ac | apply af)); exact HO133.out⟩, ⟨by repeat (first | (with_reducible first | exact HB.out | apply ah | apply ae | apply ag) | exact HB.out)⟩⟩
       ·rw [if_neg c11] at H
        exact absurd H (by simp)
      ·rw [if_neg c10] at H
       have c10b0 : ((bt a0 x5_1) == 100) = false := beq_eq_false_iff_ne.mpr c10
       have c10b1 : ((bt a0 x5_1) != 100) = true := bne_iff_ne.mpr c10
       by_cases c13 : (bt a0 x5_1) = 99
       ·rw [if_pos c13] at H
        have c13b0 : ((bt a0 x5_1) == 99) = true := beq_iff_eq.mpr c13
        have c13b1 : ((bt a0 x5_1) != 99) = false := bne_eq_false_iff_eq.mpr c13
        clear c13
        by_cases c14 : x4_1.length < 17592186044416
        ·rw [if_pos c14] at H
         have LMc14 := aa c14
         clear c14
         obtain ⟨y134, hy134⟩ : ∃ y_ : List Int, y_ = (x4_1 ++ [2]) := ⟨_, rfl⟩
         replace H : (spec_ReadStates.l0 k1 a0 y134 (wrap64 (x5_1 + 1))) = some (r1, r2) := by first | (rw [hy134]; with_reducible exact H) | (have H2_ := (Option.bind_some _ _).symm.trans H; rw [hy134]; with_reducible exact H2_) | (have H2_ := (Option.bind_some _ _).symm.trans H; with_reducible exact H2_) | with_reducible exact H | (rw [hy134]; exact H) | exact H
         have Ny134 := aa hy134
         clear hy134
         have H' := aa H
         clear H
         have p6 : 0 ≤ (x5_1 : Int) := of_decide_eq_true (by first | (with_reducible assumption) | assumption)
         have q6 : x5_1 < (a0.size : Int) := of_decide_eq_true (by first | (with_reducible assumption) | assumption)
         have hx6 := bt_at a0 x5_1
         replace p6 := eq_true p6
         replace q6 := eq_true q6
         go_wp2_with (first | ((with_reducible refine gate_builtin (b := .append) (xs := #[.tmp 28, .tmp 29]) rfl ?_); at_builtin; refine Kd.R_append (Kd.int .i64) (w0 := w) w.heap.size rfl (.tmp 28) (.tmp 29) 22 2 (.int .i64 0) 8 rfl Try.underlying22 info2 rfl (by decide) (by omega) u4 x4_1 2 [.int .i64 2] (fun _ => True) (fun _ => False) rfl rfl ?aP (fun _ hk => hk.elim) ?aF ?aO ?aB ?aS ?aL ?_; (case aP => exact rfl); (case aB => exact (by repeat (first | (with_reducible first | exact HB.out | apply ah | apply ae | apply ag) | exact HB.out))); (case aF => exact (fun _ _ => trivial)); (case aO => exact (by (with_reducible repeat (first | apply ab | apply ac | apply af)); exact HO_4.out)); (case aS => exact (ar (by repeat (first | (with_reducible first | exact HB.out | apply ah | apply ae | apply ag) | exact HB.out)))); (case aL => have := LMc14.out; omega); intro v135 w15 ho hb hg hat; rw [← Ny134.out] at ho; have n0_ := aa (hb); have n1_ := aa (ho); clear HB; clear HO_4; have HB := n0_; have HO136 := n1_; clear n0_ n1_; clear ho hb hg hat))
         go_roundg k1
         case measure => have := HK1.out; omega
         case rel => exact ⟨(y134), (wrap64 (x5_1 + 1)), (by first | rfl | (simp; done) | (simp [*]; done)), H', ⟨by have := HK1.out; omega⟩, ⟨by (with_reducible repeat (first | apply ab | apply ac | apply af)); exact HO136.out⟩, ⟨by repeat (first | (with_reducible first | exact HB.out | apply ah | apply ae | apply ag) | exact HB.out)⟩⟩
        ·rw [if_neg c14] at H
         exact absurd H (by simp)
       ·rw [if_neg c13] at H
        have c13b0 : ((bt a0 x5_1) == 99) = false := beq_eq_false_iff_ne.mpr c13
        have c13b1 : ((bt a0 x5_1) != 99) = true := bne_iff_ne.mpr c13
        by_cases c16 : (bt a0 x5_1) = 110
        ·rw [if_pos c16] at H
         have c16b0 : ((bt a0 x5_1) == 110) = true := beq_iff_eq.mpr c16
         have c16b1 : ((bt a0 x5_1) != 110) = false := bne_eq_false_iff_eq.mpr c16
         clear c16
         by_cases c17 : x4_1.length < 17592186044416
         ·rw [if_pos c17] at H
          have LMc17 := aa c17
          clear c17
          obtain ⟨y137, hy137⟩ : ∃ y_ : List Int, y_ = (x4_1 ++ [3]) := ⟨_, rfl⟩
          replace H : (spec_ReadStates.l0 k1 a0 y137 (wrap64 (x5_1 + 1))) = some (r1, r2) := by first | (rw [hy137]; with_reducible exact H) | (have H2_ := (Option.bind_some _ _).symm.trans H; rw [hy137]; with_reducible exact H2_) | (have H2_ := (Option.bind_some _ _).symm.trans H; with_reducible exact H2_) | with_reducible exact H | (rw [hy137]; exact H) | exact H
          have Ny137 := aa hy137
          clear hy137
          have H' := aa H
          clear H
          have p6 : 0 ≤ (x5_1 : Int) := of_decide_eq_true (by first | (with_reducible assumption) | assumption)
          have q6 : x5_1 < (a0.size : Int) := of_decide_eq_true (by first | (with_reducible assumption) | assumption)
          have hx6 := bt_at a0 x5_1
          replace p6 := eq_true p6
          replace q6 := eq_true q6
          go_wp2_with (first | ((with_reducible refine gate_builtin (b := .append) (xs := #[.tmp 33, .tmp 34]) rfl ?_); at_builtin; refine Kd.R_append (Kd.int .i64) (w0 := w) w.heap.size rfl (.tmp 33) (.tmp 34) 22 2 (.int .i64 0) 8 rfl Try.underlying22 info2 rfl (by decide) (by omega) u4 x4_1 3 [.int .i64 3] (fun _ => True) (fun _ => False) rfl rfl ?aP (fun _ hk => hk.elim) ?aF ?aO ?aB ?aS ?aL ?_; (case aP => exact rfl); (case aB => exact (by repeat (first | (with_reducible first | exact HB.out | apply ah | apply ae | apply ag) | exact HB.out))); (case aF => exact (fun _ _ => trivial)); (case aO => exact (by (with_reducible repeat (first | apply ab | apply ac | apply af)); exact HO_4.out)); (case aS => exact (ar (by repeat (first | (with_reducible first | exact HB.out | apply ah | apply ae | apply ag) | exact HB.out)))); (case aL => have := LMc17.out; omega); intro v138 w18 ho hb hg hat; rw [← Ny137.out] at ho; have n0_ := aa (hb); have n1_ := aa (ho); clear HB; clear HO_4; have HB := n0_; have HO139 := n1_; clear n0_ n1_; clear ho hb hg hat))
          go_roundg k1
          case measure => have := HK1.out; omega
          case rel => exact ⟨(y137), (wrap64 (x5_1 + 1)), (by first | rfl | (simp; done) | (simp [*]; done)), H', ⟨by have := HK1.out; omega⟩, ⟨by (with_reducible repeat (first | apply ab | apply ac | apply af)); exact HO139.out⟩, ⟨by repeat (first | (with_reducible first | exact HB.out | apply ah | apply ae | apply ag) | exact HB.out)⟩⟩
         ·rw [if_neg c17] at H
          exact absurd H (by simp)
        ·rw [if_neg c16] at H
         have c16b0 : ((bt a0 x5_1) == 110) = false := beq_eq_false_iff_ne.mpr c16
         have c16b1 : ((bt a0 x5_1) != 110) = true := bne_iff_ne.mpr c16
         simp only [Option.some.injEq, Prod.mk.injEq] at H
         obtain ⟨rfl, rfl⟩ := H
         have p6 : 0 ≤ (x5_1 : Int) := of_decide_eq_true (by first | (with_reducible assumption) | assumption)
         have q6 : x5_1 < (a0.size : Int) := of_decide_eq_true (by first | (with_reducible assumption) | assumption)
         have hx6 := bt_at a0 x5_1
         replace p6 := eq_true p6
         replace q6 := eq_true q6
         go_wp2
         go_ret2
         exact ⟨_, by first | rfl | (simp [errW_none, errW_some] <;> rfl) | (simp [*, errW_none, errW_some] <;> rfl), by first | exact Kd.R_nil _ _ _ _ _ | exact Kd.N_nil _ _ _ _ _ | exact Kd.V_nil _ _ _ _ _ | exact Kd.Q_nil _ _ _ _ _ | exact Kd.S_nil _ _ _ _ _, by repeat (first | (with_reducible first | exact HB.out | apply ah | apply ae | apply ag) | exact HB.out)⟩
    ·rw [if_neg c5] at H
     exact absurd H (by simp)
   ·rw [if_neg c4] at H
    have c4b0 : decide (x5_1 < (a0.size : Int)) = false := decide_eq_false c4
    clear c4
    replace H := bm.mp H
    obtain ⟨t127, A190, H⟩ := H
    replace H : (if t127 = true then (some (x4_1, true)) else (some (([] : List Int), false))) = some (r1, r2) := H
    have A19 := aa A190
    clear A190
    by_cases c20 : t127 = true
    ·subst c20
     have H1 : (some (x4_1, true)) = some (r1, r2) := by rw [if_pos rfl] at H; exact H
     clear H
     have H := H1
     clear H1
     simp only [Option.some.injEq, Prod.mk.injEq] at H
     obtain ⟨rfl, rfl⟩ := H
     obtain ⟨Ao21, co21, eo21⟩ := ap HO_4.out
     subst eo21
     go_wp2_with (first | ((with_reducible refine gate_callee (f := 59) rfl ?_); refine goesL_ (some 37) rfl rfl Try.func59 (by kernel_rfl) rfl #[.slice Ao21 x4_1.length co21] rfl (by (try simp only [List.map_toArray, List.map_cons, List.map_nil]); first | done | rfl | (simp only [List.length_drop, List.length_take]; rfl)) ?_; (with_reducible refine (spec_l22Ok.calls k1 _ _ x4_1 true _ ?side1 ?side2 A19.out).mono ?_); (case side1 => repeat (first | exact (ai HO_4.out).2.2 | (with_reducible refine ak ?_ _) | (with_reducible refine al ?_ _) | (with_reducible refine am ?_))); (case side2 => exact (ai HO_4.out).2.1); rintro e w' ⟨rfl, ⟨nd, rfl⟩⟩; refine ⟨_, rfl, ?_⟩))
     go_ret2
     exact ⟨_, by first | rfl | (simp [errW_none, errW_some] <;> rfl) | (simp [*, errW_none, errW_some] <;> rfl), by (with_reducible repeat (first | apply ab | apply ac | apply af)); exact HO_4.out, by repeat (first | (with_reducible first | exact HB.out | apply ah | apply ae | apply ag) | exact HB.out)⟩
    ·replace c20 := Bool.eq_false_iff.mpr c20
     subst c20
     have H1 : (some (([] : List Int), false)) = some (r1, r2) := by rw [if_neg (show ¬ (false = true) by decide)] at H; exact H
     clear H
     have H := H1
     clear H1
     simp only [Option.some.injEq, Prod.mk.injEq] at H
     obtain ⟨rfl, rfl⟩ := H
     obtain ⟨Ao22, co22, eo22⟩ := ap HO_4.out
     subst eo22
     go_wp2_with (first | ((with_reducible refine gate_callee (f := 59) rfl ?_); refine goesL_ (some 37) rfl rfl Try.func59 (by kernel_rfl) rfl #[.slice Ao22 x4_1.length co22] rfl (by (try simp only [List.map_toArray, List.map_cons, List.map_nil]); first | done | rfl | (simp only [List.length_drop, List.length_take]; rfl)) ?_; (with_reducible refine (spec_l22Ok.calls k1 _ _ x4_1 false _ ?side1 ?side2 A19.out).mono ?_); (case side1 => repeat (first | exact (ai HO_4.out).2.2 | (with_reducible refine ak ?_ _) | (with_reducible refine al ?_ _) | (with_reducible refine am ?_))); (case side2 => exact (ai HO_4.out).2.1); rintro e w' ⟨rfl, ⟨nd, rfl⟩⟩; refine ⟨_, rfl, ?_⟩))
     go_ret2
     exact ⟨_, by first | rfl | (simp [errW_none, errW_some] <;> rfl) | (simp [*, errW_none, errW_some] <;> rfl), by first | exact Kd.R_nil _ _ _ _ _ | exact Kd.N_nil _ _ _ _ _ | exact Kd.V_nil _ _ _ _ _ | exact Kd.Q_nil _ _ _ _ _ | exact Kd.S_nil _ _ _ _ _, by repeat (first | (with_reducible first | exact HB.out | apply ah | apply ae | apply ag) | exact HB.out)⟩

-- inside a hand-given walk: function 118 (bytealg_IndexByteString)

-- inside a hand-given walk: function 94 (stringslite_IndexByte)

/-! ### strings_IndexByte: function 64 -/
/-! the first place of a byte in a string: Go's library tells it by a function without a body, which the model gives -/
set_option maxHeartbeats 1000000 in
set_option maxRecDepth 100000 in
theorem lite_IndexByte (s : ByteArray) (c : Int) (w : World) :
  Calls Try.prog 94 #[.string s, .int .u8 c] w fun e w' => e = .returned (.int .i64 (Lib.indexByte s.data.toList c.toNat.toUInt8)) ∧ w' = w := by
 go_enter Try.func94, Try.ntmps94
 go_wp2
 rw [run_callFunc_extern Try.func118 (by kernel_rfl) (by kernel_rfl) (by kernel_rfl) (e := Extern.BytealgIndexByte.indexByte) (by kernel_rfl), Lib.run_indexByteString]
 simp only [Result.andThen]
 rw [Oper.upon_value]
 go_wp2
 go_ret
 exact ⟨rfl, rfl⟩
def strings_IndexByte.f (a0 : ByteArray) (a1 : Int) : Option (Int) := some (Lib.indexByte a0.data.toList a1.toNat.toUInt8)
set_option maxHeartbeats 1000000 in
set_option maxRecDepth 100000 in
theorem strings_IndexByte.calls (a0 : ByteArray) (a1 : Int) (r : Int) (w : World) (h : strings_IndexByte.f a0 a1 = some r) :
  Calls Try.prog 64 #[.string a0, .int .u8 a1] w fun e w' => e = .returned (.int .i64 r) ∧ Drawn0 w w' := by
 obtain rfl := Option.some.inj h
 go_enter Try.func64, Try.ntmps64
 go_wp2_with (go_at_call 94; refine (lite_IndexByte _ _ _).mono ?_; rintro e w' ⟨rfl, rfl⟩)
 go_ret
 exact ⟨rfl, Drawn0.refl _⟩


/-! ### impl_ReadStates: function 28 -/
def impl_ReadStates.l0 : Nat → ByteArray → List Int → Int → Int → Option (List Int × Bool)
 | 0, _, _, _, _ => none
 | k + 1, x0, x4, x8, x9 => if x9 < x8 then (if 0 ≤ x9 then (if x9 < (x0.size : Int) then ((strings_IndexByte.f (⟨#[111, 100, 99, 110]⟩ : ByteArray) (bt x0 x9)).bind fun t143 => (if x4.length < 17592186044416 then (impl_ReadStates.l0 k x0 (x4 ++ [t143]) x8 (wrap64 (x9 + 1))) else (none))) else (none)) else (none)) else ((impl_ValidStates.f x4).bind fun t147 => (if t147 = true then (some (x4, true)) else (some (([] : List Int), false))))
def impl_ReadStates.f (k : Nat) (a0 : ByteArray) : Option (List Int × Bool) := impl_ReadStates.l0 k a0 (([] : List Int)) (a0.size : Int) 0
theorem impl_ReadStates.mono_l : ∀ k, (∀ y0 y1 y2 y3, LeO (impl_ReadStates.l0 k y0 y1 y2 y3) (impl_ReadStates.l0 (k + 1) y0 y1 y2 y3))
 | 0 => fun _ _ _ _ r h => by simp [impl_ReadStates.l0] at h
 | k + 1 => by
  have ih0 := impl_ReadStates.mono_l k
  ·intro y0 y1 y2 y3
   unfold impl_ReadStates.l0
   repeat' first
   | (with_reducible exact ih0 _ _ _ _)
   | (with_reducible exact LeO.refl _)
   | (with_reducible exact LeO.none _)
   | (with_reducible refine LeO.ite ?_ ?_)
   | (with_reducible refine LeO.bind ?_ (fun _ => ?_))
   | exact ih0 _ _ _ _
   | exact LeO.none _
   | refine LeO.ite ?_ ?_
   | refine LeO.bind ?_ (fun _ => ?_)
theorem impl_ReadStates.mono : ∀ a0 k, LeO (impl_ReadStates.f k a0) (impl_ReadStates.f (k + 1) a0) := by
 intro a0 k
 have ih0 := impl_ReadStates.mono_l k
 unfold impl_ReadStates.f
 repeat' first
   | (with_reducible exact ih0 _ _ _ _)
   | (with_reducible exact LeO.refl _)
   | (with_reducible exact LeO.none _)
   | (with_reducible refine LeO.ite ?_ ?_)
   | (with_reducible refine LeO.bind ?_ (fun _ => ?_))
   | exact ih0 _ _ _ _
   | exact LeO.none _
   | refine LeO.ite ?_ ?_
   | refine LeO.bind ?_ (fun _ => ?_)
set_option maxHeartbeats 8000000 in
set_option maxRecDepth 100000 in
theorem impl_ReadStates.calls (k : Nat) (a0 : ByteArray) (r1 : List Int) (r2 : Bool) (w : World) (h : impl_ReadStates.f k a0 = some (r1, r2)) :
  Calls Try.prog 28 #[.string a0] w fun e w' => ∃ v0_ : Value, e = .returned (.tuple #[v0_, .bool r2]) ∧ Kd.R (Kd.int .i64) 2 w' w.heap.size (fun _ => True) v0_ r1 ∧ Below w.heap.size w w' := by
 have HB := aa (Below.refl w.heap.size w)
 have H : (impl_ReadStates.l0 k a0 (([] : List Int)) (a0.size : Int) 0) = some (r1, r2) := h
 clear h
 obtain ⟨y140, hy140⟩ : ∃ y_ : List Int, y_ = (([] : List Int)) := ⟨_, rfl⟩
 replace H : (impl_ReadStates.l0 k a0 y140 (a0.size : Int) 0) = some (r1, r2) := by first | (rw [hy140]; with_reducible exact H) | (have H2_ := (Option.bind_some _ _).symm.trans H; rw [hy140]; with_reducible exact H2_) | (have H2_ := (Option.bind_some _ _).symm.trans H; with_reducible exact H2_) | with_reducible exact H | (rw [hy140]; exact H) | exact H
 have Ny140 := aa hy140
 clear hy140
 have H' := aa H
 clear H
 go_enter Try.func28, Try.ntmps28
 go_wp2_with (first | ((with_reducible refine gate_dst (N := 6) rfl ?_); refine Kd.R_lit (Kd.int .i64) _ 2 ?hg (N := 6) ?hd (xs := ([] : List Int)) (inner := []) (ok := fun _ => True) (okp := fun _ => True) ?hr ?hp (fun _ hk => hk) trivial (Below.refl _ _) (Nat.le_refl _) (by simp) ?_; (case hd => rfl); (case hg => rfl); (case hr => first | (go_simp; done) | (go_simp; rfl)); (case hp => exact (Reps.none _ _)); intro v141 w2 ho3 hb hg_ hnew_; clear hg_ hnew_; (first | rw [← Ny140.out] at ho3 | (simp only [Int.reduceToNat] at ho3; rw [← Ny140.out] at ho3)); have n0_ := aa (bd ho3 (ar (by repeat (first | (with_reducible first | exact HB.out | apply ah | apply ae | apply ag) | exact HB.out)))); have n1_ := aa (ay (by repeat (first | (with_reducible first | exact HB.out | apply ah | apply ae | apply ag) | exact HB.out)) hb); clear HB; have HO142 := n0_; have HB := n1_; clear n0_ n1_; clear hb ho3))
 go_loopg [4, 9] k (fun kq v4 v9 w' => ∃ (x4_1 : List Int) (x9_1 : Int), v9 = .int .i64 x9_1 ∧ Aside0 (impl_ReadStates.l0 kq a0 x4_1 (a0.size : Int) x9_1 = some (r1, r2)) ∧ Aside0 (kq ≤ k) ∧ Aside0 (Kd.R (Kd.int .i64) 2 w' w.heap.size (fun _ => True) v4 x4_1) ∧ Aside0 (Below w.heap.size w w'))
 case atStart => exact ⟨(y140), (0), (by first | rfl | (simp; done) | (simp [*]; done)), H', ⟨Nat.le_refl _⟩, ⟨by (with_reducible repeat (first | apply ab | apply ac | apply af)); exact HO142.out⟩, ⟨by repeat (first | (with_reducible first | exact HB.out | apply ah | apply ae | apply ag) | exact HB.out)⟩⟩
 case round =>
  clear H'
  try clear c2
  try clear p2
  obtain ⟨x4_1, x9_1, rfl, HA, HK1, HO_4, HB⟩ := hrel
  cases gk with
  | zero => exact absurd HA.out (by simp [impl_ReadStates.l0])
  | succ k1 =>
   have H := HA.out
   clear HA
   simp only [impl_ReadStates.l0] at H
   by_cases c4 : x9_1 < (a0.size : Int)
   ·rw [if_pos c4] at H
    have c4b0 : decide (x9_1 < (a0.size : Int)) = true := decide_eq_true c4
    clear c4
    by_cases c5 : 0 ≤ x9_1
    ·rw [if_pos c5] at H
     have c5b0 : decide (0 ≤ x9_1) = true := decide_eq_true c5
     clear c5
     by_cases c6 : x9_1 < (a0.size : Int)
     ·rw [if_pos c6] at H
      have c6b0 : decide (x9_1 < (a0.size : Int)) = true := decide_eq_true c6
      clear c6
      replace H := bm.mp H
      obtain ⟨t143, A80, H⟩ := H
      (try dsimp only at H)
      have A8 := aa A80
      clear A80
      by_cases c9 : x4_1.length < 17592186044416
      ·rw [if_pos c9] at H
       have LMc9 := aa c9
       clear c9
       obtain ⟨y144, hy144⟩ : ∃ y_ : List Int, y_ = (x4_1 ++ [t143]) := ⟨_, rfl⟩
       replace H : (impl_ReadStates.l0 k1 a0 y144 (a0.size : Int) (wrap64 (x9_1 + 1))) = some (r1, r2) := by first | (rw [hy144]; with_reducible exact H) | (have H2_ := (Option.bind_some _ _).symm.trans H; rw [hy144]; with_reducible exact H2_) | (have H2_ := (Option.bind_some _ _).symm.trans H; with_reducible exact H2_) | with_reducible exact H | (rw [hy144]; exact H) | exact H
       have Ny144 := aa hy144
       clear hy144
       have H' := aa H
       clear H
       have p7 : 0 ≤ (x9_1 : Int) := of_decide_eq_true (by first | (with_reducible assumption) | assumption)
       have q7 : x9_1 < (a0.size : Int) := of_decide_eq_true (by first | (with_reducible assumption) | assumption)
       have hx7 := bt_at a0 x9_1
       replace p7 := eq_true p7
       replace q7 := eq_true q7
       go_wp2_with (first | ((with_reducible refine gate_callee (f := 64) rfl ?_); refine goesL_ (some 16) rfl rfl Try.func64 (by kernel_rfl) rfl #[.string (⟨#[111, 100, 99, 110]⟩ : ByteArray), .int .u8 (bt a0 x9_1)] rfl (by (try simp only [List.map_toArray, List.map_cons, List.map_nil]); first | done | rfl | (simp only [List.length_drop, List.length_take]; rfl)) ?_; (with_reducible refine (strings_IndexByte.calls (⟨#[111, 100, 99, 110]⟩ : ByteArray) (bt a0 x9_1) t143 _ A8.out).mono ?_); rintro e w' ⟨rfl, ⟨nd, rfl⟩⟩; refine ⟨_, rfl, ?_⟩) | ((with_reducible refine gate_builtin (b := .append) (xs := #[.tmp 12, .tmp 17]) rfl ?_); at_builtin; refine Kd.R_append (Kd.int .i64) (w0 := w) w.heap.size rfl (.tmp 12) (.tmp 17) 22 2 (.int .i64 0) 8 rfl Try.underlying22 info2 rfl (by decide) (by omega) u4 x4_1 t143 [.int .i64 t143] (fun _ => True) (fun _ => False) rfl rfl ?aP (fun _ hk => hk.elim) ?aF ?aO ?aB ?aS ?aL ?_; (case aP => exact rfl); (case aB => exact (by repeat (first | (with_reducible first | exact HB.out | apply ah | apply ae | apply ag) | exact HB.out))); (case aF => exact (fun _ _ => trivial)); (case aO => exact (by (with_reducible repeat (first | apply ab | apply ac | apply af)); exact HO_4.out)); (case aS => exact (ar (by repeat (first | (with_reducible first | exact HB.out | apply ah | apply ae | apply ag) | exact HB.out)))); (case aL => have := LMc9.out; omega); intro v145 w10 ho hb hg hat; rw [← Ny144.out] at ho; have n0_ := aa (hb); have n1_ := aa (ho); clear HB; clear HO_4; have HB := n0_; have HO146 := n1_; clear n0_ n1_; clear ho hb hg hat))
       go_roundg k1
       case measure => have := HK1.out; omega
       case rel => exact ⟨(y144), (wrap64 (x9_1 + 1)), (by first | rfl | (simp; done) | (simp [*]; done)), H', ⟨by have := HK1.out; omega⟩, ⟨by (with_reducible repeat (first | apply ab | apply ac | apply af)); exact HO146.out⟩, ⟨by repeat (first | (with_reducible first | exact HB.out | apply ah | apply ae | apply ag) | exact HB.out)⟩⟩
      ·rw [if_neg c9] at H
       exact absurd H (by simp)
     ·rw [if_neg c6] at H
      exact absurd H (by simp)
    ·rw [if_neg c5] at H
     exact absurd H (by simp)
   ·rw [if_neg c4] at H
    have c4b0 : decide (x9_1 < (a0.size : Int)) = false := decide_eq_false c4
    clear c4
    replace H := bm.mp H
    obtain ⟨t147, A110, H⟩ := H
    replace H : (if t147 = true then (some (x4_1, true)) else (some (([] : List Int), false))) = some (r1, r2) := H
    have A11 := aa A110
    clear A110
    by_cases c12 : t147 = true
    ·subst c12
     have H1 : (some (x4_1, true)) = some (r1, r2) := by rw [if_pos rfl] at H; exact H
     clear H
     have H := H1
     clear H1
     simp only [Option.some.injEq, Prod.mk.injEq] at H
     obtain ⟨rfl, rfl⟩ := H
     obtain ⟨Ao13, co13, eo13⟩ := ap HO_4.out
     subst eo13
     go_wp2_with (first | ((with_reducible refine gate_callee (f := 17) rfl ?_); refine goesL_ (some 21) rfl rfl Try.func17 (by kernel_rfl) rfl #[.slice Ao13 x4_1.length co13] rfl (by (try simp only [List.map_toArray, List.map_cons, List.map_nil]); first | done | rfl | (simp only [List.length_drop, List.length_take]; rfl)) ?_; (with_reducible refine (impl_ValidStates.calls _ _ x4_1 true _ ?side1 ?side2 A11.out).mono ?_); (case side1 => repeat (first | exact (ai HO_4.out).2.2 | (with_reducible refine ak ?_ _) | (with_reducible refine al ?_ _) | (with_reducible refine am ?_))); (case side2 => exact (ai HO_4.out).2.1); rintro e w14 ⟨rfl, hb⟩; refine ⟨_, rfl, ?_⟩; have n0_ := aa (aq (by (with_reducible repeat (first | apply ab | apply ac | apply af)); exact HO_4.out) hb); have n1_ := aa (ay (by repeat (first | (with_reducible first | exact HB.out | apply ah | apply ae | apply ag) | exact HB.out)) hb); clear HO_4; clear HB; have HO_4 := n0_; have HB := n1_; clear n0_ n1_; (try clear hb); (try clear hb2); (try clear hk); (try clear hi)))
     go_ret2
     exact ⟨_, by first | rfl | (simp [errW_none, errW_some] <;> rfl) | (simp [*, errW_none, errW_some] <;> rfl), by (with_reducible repeat (first | apply ab | apply ac | apply af)); exact HO_4.out, by repeat (first | (with_reducible first | exact HB.out | apply ah | apply ae | apply ag) | exact HB.out)⟩
    ·replace c12 := Bool.eq_false_iff.mpr c12
     subst c12
     have H1 : (some (([] : List Int), false)) = some (r1, r2) := by rw [if_neg (show ¬ (false = true) by decide)] at H; exact H
     clear H
     have H := H1
     clear H1
     simp only [Option.some.injEq, Prod.mk.injEq] at H
     obtain ⟨rfl, rfl⟩ := H
     obtain ⟨Ao15, co15, eo15⟩ := ap HO_4.out
     subst eo15
     go_wp2_with (first | ((with_reducible refine gate_callee (f := 17) rfl ?_); refine goesL_ (some 21) rfl rfl Try.func17 (by kernel_rfl) rfl #[.slice Ao15 x4_1.length co15] rfl (by (try simp only [List.map_toArray, List.map_cons, List.map_nil]); first | done | rfl | (simp only [List.length_drop, List.length_take]; rfl)) ?_; (with_reducible refine (impl_ValidStates.calls _ _ x4_1 false _ ?side1 ?side2 A11.out).mono ?_); (case side1 => repeat (first | exact (ai HO_4.out).2.2 | (with_reducible refine ak ?_ _) | (with_reducible refine al ?_ _) | (with_reducible refine am ?_))); (case side2 => exact (ai HO_4.out).2.1); rintro e w16 ⟨rfl, hb⟩; refine ⟨_, rfl, ?_⟩; have n0_ := aa (aq (by (with_reducible repeat (first | apply ab | apply ac | apply af)); exact HO_4.out) hb); have n1_ := aa (ay (by repeat (first | (with_reducible first | exact HB.out | apply ah | apply ae | apply ag) | exact HB.out)) hb); clear HO_4; clear HB; have HO_4 := n0_; have HB := n1_; clear n0_ n1_; (try clear hb); (try clear hb2); (try clear hk); (try clear hi)))
     go_ret2
     exact ⟨_, by first | rfl | (simp [errW_none, errW_some] <;> rfl) | (simp [*, errW_none, errW_some] <;> rfl), by first | exact Kd.R_nil _ _ _ _ _ | exact Kd.N_nil _ _ _ _ _ | exact Kd.V_nil _ _ _ _ _ | exact Kd.Q_nil _ _ _ _ _ | exact Kd.S_nil _ _ _ _ _, by repeat (first | (with_reducible first | exact HB.out | apply ah | apply ae | apply ag) | exact HB.out)⟩

-- inside a hand-given walk: function 98 (spec_l22Step)

/-! ### spec_l22Code: function 67 -/
/-! a step is one of so many parts; the code of states and steps -/
theorem In_is (a b c : Int) : spec_l00In.f a b c = some (decide (b ≤ a ∧ a ≤ c)) := by
 unfold spec_l00In.f
 by_cases h : a ≥ b
 ·rw [if_pos h]; simp [show b ≤ a from h]
 ·rw [if_neg h]; simp [show ¬ b ≤ a from h]
def stepOk (n : Int) (x : S64) : Bool := decide (0 ≤ x.f0 ∧ x.f0 ≤ wrap64 (n - 1)) && (decide (0 ≤ x.f1 ∧ x.f1 ≤ 3) && (decide (0 ≤ x.f2 ∧ x.f2 ≤ 3) && decide (x.f1 ≠ x.f2)))
set_option maxHeartbeats 4000000 in
set_option maxRecDepth 100000 in
theorem step_calls (n a b c : Int) (ad : Addr) (w : World) (h0 : w.cell? ad = some (.int .i64 a)) (h1 : w.cell? ⟨ad.block, ad.off + 1, none⟩ = some (.int .i64 b)) (h2 : w.cell? ⟨ad.block, ad.off + 2, none⟩ = some (.int .i64 c)) :
  Calls Try.prog 98 #[.int .i64 n, .pointer (some ad)] w fun e w' => e = .returned (.bool (stepOk n ⟨a, b, c⟩)) ∧ Drawn0 w w' := by
 have i1 := aa (In_is a 0 (wrap64 (n - 1)))
 have i2 := aa (In_is b 0 3)
 have i3 := aa (In_is c 0 3)
 have hs : stepOk n ⟨a, b, c⟩ = (decide (0 ≤ a ∧ a ≤ wrap64 (n - 1)) && (decide (0 ≤ b ∧ b ≤ 3) && (decide (0 ≤ c ∧ c ≤ 3) && decide (b ≠ c)))) := rfl
 rw [hs]
 clear hs
 generalize decide (0 ≤ a ∧ a ≤ wrap64 (n - 1)) = b1 at i1 ⊢
 generalize decide (0 ≤ b ∧ b ≤ 3) = b2 at i2 ⊢
 generalize decide (0 ≤ c ∧ c ≤ 3) = b3 at i3 ⊢
 cases b1 <;> cases b2 <;> cases b3 <;>
 ·go_enter Try.func98, Try.ntmps98
  go_wp2
  repeat (go_quiet ((go_at_call 90; (try simp only [Go.IntWalk.i64_left]); (first | (with_reducible refine (spec_l00In.calls a 0 (wrap64 (n - 1)) _ _ i1.out).mono ?_) | (with_reducible refine (spec_l00In.calls b 0 3 _ _ i2.out).mono ?_) | (with_reducible refine (spec_l00In.calls c 0 3 _ _ i3.out).mono ?_)); rintro e w' ⟨rfl, ⟨nd, rfl⟩⟩; (first | exact ⟨rfl, _, aj _ _ _⟩ | exact ⟨rfl, _, Eq.trans (aj _ _ _) (congrArg (World.drewN _) (Nat.add_assoc _ _ _))⟩))); try go_wp2)
  go_ret
  exact ⟨by first | rfl | (simp; done) | (simp; rfl) | (simp [bne]; done) | (simp [bne, Int.beq_eq]; done), by repeat (first | exact Drawn0.refl _ | apply Drawn0.step)⟩
theorem steps_mem (l : List S64) (kk : Nat) (h : kk < l.length) : rd_T64 l (kk : Int) ∈ l := by
 unfold rd_T64
 rw [Int.toNat_natCast, List.getD_eq_getElem?_getD, List.getElem?_eq_getElem h]
 exact List.getElem_mem _
theorem steps_all (p : S64 → Bool) (l : List S64) (h : ∀ j : Nat, j < l.length → p (rd_T64 l (j : Int)) = true) : l.all p = true := by
 rw [List.all_eq_true]
 intro x hx
 obtain ⟨j, hj, rfl⟩ := List.getElem_of_mem hx
 have := h j hj
 unfold rd_T64 at this
 rw [Int.toNat_natCast, List.getD_eq_getElem?_getD, List.getElem?_eq_getElem hj] at this
 simpa using this
def spec_l22Code.f (k : Nat) (l0 : List Int) (l1 : List S64) : Option (Int) := (spec_l22Ok.f k l0).bind fun t => if t = true then (if l1.all (stepOk l0.length) = true then (if (l1.length : Int) > 60 then some 2 else some 0) else some 2) else some 1
theorem spec_l22Code.mono : ∀ a0 a1 k, LeO (spec_l22Code.f k a0 a1) (spec_l22Code.f (k + 1) a0 a1) := by
 intro a0 a1 k
 unfold spec_l22Code.f
 repeat' first
   | (with_reducible exact spec_l22Ok.mono _ _)
   | (with_reducible exact LeO.refl _)
   | (with_reducible refine LeO.ite ?_ ?_)
   | (with_reducible refine LeO.bind ?_ (fun _ => ?_))
set_option maxHeartbeats 4000000 in
set_option maxRecDepth 100000 in
theorem spec_l22Code.calls (k : Nat) (A0 : Option Addr) (c0 : Nat) (l0 : List Int) (A1 : Option Addr) (c1 : Nat) (l1 : List S64) (r : Int) (w : World) (hr0 : Kd.C (Kd.int .i64) w A0 l0.length l0) (hc0 : l0.length ≤ c0) (hr1 : Kd.C k64 w A1 l1.length l1) (hc1 : l1.length ≤ c1) (h : spec_l22Code.f k l0 l1 = some r) :
  Calls Try.prog 67 #[.slice A0 l0.length c0, .slice A1 l1.length c1] w fun e w' => e = .returned (.int .i64 r) ∧ Drawn0 w w' := by
 have hbig := Kd.C_max hr1
 have hlen : (l1.length : Int) ≤ 9223372036854775807 := by omega
 unfold spec_l22Code.f at h
 obtain ⟨t, ht, h⟩ := bm.mp h
 have HT := aa ht
 have HR0 := aa hr0
 have HC0 := aa hc0
 have HR1 := aa hr1
 clear ht hr0 hc0 hr1
 cases t with
 | false =>
  rw [if_neg (by simp)] at h
  obtain rfl := Option.some.inj h
  clear h
  go_enter Try.func67, Try.ntmps67
  go_wp2_with (go_at_call 59; refine (spec_l22Ok.calls k _ _ l0 false _ HR0.out HC0.out HT.out).mono ?_; rintro e w' ⟨rfl, ⟨nd, rfl⟩⟩)
  go_ret
  exact ⟨rfl, by repeat (first | exact Drawn0.refl _ | apply Drawn0.step)⟩
 | true =>
  rw [if_pos rfl] at h
  have H := aa h
  clear h
  go_enter Try.func67, Try.ntmps67
  go_wp2_with (go_at_call 59; refine (spec_l22Ok.calls k _ _ l0 true _ HR0.out HC0.out HT.out).mono ?_; rintro e w' ⟨rfl, ⟨nd, rfl⟩⟩)
  go_loopg [5] l1.length (fun gg s5 wr => ∃ kk q : Nat, kk ≤ l1.length ∧ l1.length - kk ≤ gg ∧ s5 = .int .i64 kk ∧ wr = w.drewN q ∧ Aside0 (∀ j : Nat, j < kk → stepOk l0.length (rd_T64 l1 (j : Int)) = true))
  case atStart => exact ⟨0, _, Nat.zero_le _, by omega, rfl, rfl, ⟨fun j hj => absurd hj (Nat.not_lt_zero _)⟩⟩
  case round =>
   obtain ⟨kk, q, hkk, hg, rfl, rfl, A⟩ := hrel
   by_cases hlt : kk < l1.length
   ·have hltz : (kk : Int) < (l1.length : Int) := by omega
    obtain ⟨ad, hA, hx0, hx1, hx2⟩ := at_T64 HR1.out (kk : Int) (by omega) hltz
    cases hA
    rw [Int.toNat_natCast] at hx0 hx1 hx2
    have hm0 := steps_mem l1 kk hlt
    have hcall := step_calls l0.length (rd_T64 l1 (kk : Int)).f0 (rd_T64 l1 (kk : Int)).f1 (rd_T64 l1 (kk : Int)).f2 (ad.add (kk * 3)) (w.drewN q) hx0 hx1 hx2
    have hy : (⟨(rd_T64 l1 (kk : Int)).f0, (rd_T64 l1 (kk : Int)).f1, (rd_T64 l1 (kk : Int)).f2⟩ : S64) = rd_T64 l1 (kk : Int) := rfl
    rw [hy] at hcall
    cases hq : stepOk l0.length (rd_T64 l1 (kk : Int)) with
    | true =>
     rw [hq] at hcall
     have HCL := aa hcall
     have Q := aa hq
     clear hcall hq hy hm0 hx0 hx1 hx2
     go_wp2_with (go_at_call 98; refine HCL.out.mono ?_; rintro e w' ⟨rfl, ⟨nd, rfl⟩⟩)
     go_roundg (l1.length - (kk + 1))
     case measure => omega
     case rel =>
      refine ⟨kk + 1, _, by omega, by omega, by go_num, by first | rfl | exact aj _ _ _, ⟨fun j hj => ?_⟩⟩
      by_cases e : j = kk
      ·subst e; exact Q.out
      ·exact A.out j (by omega)
    | false =>
     rw [hq] at hcall
     have hall : l1.all (stepOk l0.length) = false := by
      rw [List.all_eq_false]
      exact ⟨_, hm0, by rw [hq]; simp⟩
     have hr : r = 2 := by
      have := H.out
      rw [hall, if_neg (by simp)] at this
      exact (Option.some.inj this).symm
     subst hr
     have HCL := aa hcall
     clear hcall hq hy hm0 hx0 hx1 hx2 hall
     go_wp2_with (go_at_call 98; refine HCL.out.mono ?_; rintro e w' ⟨rfl, ⟨nd, rfl⟩⟩)
     go_ret
     exact ⟨rfl, by repeat (first | exact Drawn0.refl _ | exact ⟨_, aj _ _ _⟩ | apply Drawn0.step)⟩
   ·have hltz : ¬ (kk : Int) < (l1.length : Int) := by omega
    have hall : l1.all (stepOk l0.length) = true := steps_all _ _ (fun j hj => A.out j (by omega))
    by_cases hl : (l1.length : Int) > 60
    ·have hr : r = 2 := by
      have := H.out
      rw [hall, if_pos rfl, if_pos hl] at this
      exact (Option.some.inj this).symm
     subst hr
     have hl2 : (60 : Int) < (l1.length : Int) := hl
     clear hall
     go_wp2
     go_ret
     exact ⟨rfl, by repeat (first | exact Drawn0.refl _ | exact ⟨_, aj _ _ _⟩ | apply Drawn0.step)⟩
    ·have hr : r = 0 := by
      have := H.out
      rw [hall, if_pos rfl, if_neg hl] at this
      exact (Option.some.inj this).symm
     subst hr
     have hl2 : ¬ (60 : Int) < (l1.length : Int) := hl
     clear hall
     go_wp2
     go_ret
     exact ⟨rfl, by repeat (first | exact Drawn0.refl _ | exact ⟨_, aj _ _ _⟩ | apply Drawn0.step)⟩


/-! ### spec_l00Own: function 68 -/
def spec_l00Own.f (l0 : List Int) : Option (List Int) := (some (([] : List Int) : List Int)).bind fun y148 => (if y148.length + l0.length < 17592186044416 then (some (y148 ++ l0)) else (none))
set_option maxHeartbeats 8000000 in
set_option maxRecDepth 100000 in
theorem spec_l00Own.calls (A0 : Option Addr) (c0 : Nat) (l0 : List Int) (r : List Int) (w : World) (hr0 : Kd.C (Kd.int .i64) w A0 l0.length l0) (hc0 : l0.length ≤ c0) (h : spec_l00Own.f l0 = some r) :
  Calls Try.prog 68 #[.slice A0 l0.length c0] w fun e w' => ∃ v0_ : Value, e = .returned (v0_) ∧ Kd.R (Kd.int .i64) 2 w' w.heap.size (fun _ => True) v0_ r ∧ Below w.heap.size w w' := by
 have HR0 := aa hr0
 have HC0 := aa hc0
 clear hr0 hc0
 have HB := aa (Below.refl w.heap.size w)
 have H : ((some (([] : List Int) : List Int)).bind fun y148 => (if y148.length + l0.length < 17592186044416 then (some (y148 ++ l0)) else (none))) = some r := h
 clear h
 obtain ⟨y148, hy148⟩ : ∃ y_ : List Int, y_ = (([] : List Int)) := ⟨_, rfl⟩
 replace H : (if y148.length + l0.length < 17592186044416 then (some (y148 ++ l0)) else (none)) = some r := by first | (rw [hy148]; with_reducible exact H) | (have H2_ := (Option.bind_some _ _).symm.trans H; rw [hy148]; with_reducible exact H2_) | (have H2_ := (Option.bind_some _ _).symm.trans H; with_reducible exact H2_) | with_reducible exact H | (rw [hy148]; exact H) | exact H
 have Ny148 := aa hy148
 clear hy148
 by_cases c2 : y148.length + l0.length < 17592186044416
 ·rw [if_pos c2] at H
  have LMc2 := aa c2
  clear c2
  obtain ⟨y151, hy151⟩ : ∃ y_ : List Int, y_ = (y148 ++ l0) := ⟨_, rfl⟩
  replace H : (some y151) = some r := by first | (rw [hy151]; with_reducible exact H) | (have H2_ := (Option.bind_some _ _).symm.trans H; rw [hy151]; with_reducible exact H2_) | (have H2_ := (Option.bind_some _ _).symm.trans H; with_reducible exact H2_) | with_reducible exact H | (rw [hy151]; exact H) | exact H
  have Ny151 := aa hy151
  clear hy151
  obtain rfl := Option.some.inj H
  go_enter Try.func68, Try.ntmps68
  go_wp2_with (first | ((with_reducible refine gate_dst (N := 3) rfl ?_); refine Kd.R_lit (Kd.int .i64) _ 2 ?hg (N := 3) ?hd (xs := ([] : List Int)) (inner := []) (ok := fun _ => True) (okp := fun _ => True) ?hr ?hp (fun _ hk => hk) trivial (Below.refl _ _) (Nat.le_refl _) (by simp) ?_; (case hd => rfl); (case hg => rfl); (case hr => first | (go_simp; done) | (go_simp; rfl)); (case hp => exact (Reps.none _ _)); intro v149 w3 ho4 hb hg_ hnew_; clear hg_ hnew_; (first | rw [← Ny148.out] at ho4 | (simp only [Int.reduceToNat] at ho4; rw [← Ny148.out] at ho4)); have n0_ := aa (bd ho4 (ar (by repeat (first | (with_reducible first | exact HB.out | apply ah | apply ae | apply ag) | exact HB.out)))); have n1_ := aa (ay (by repeat (first | (with_reducible first | exact HB.out | apply ah | apply ae | apply ag) | exact HB.out)) hb); clear HB; have HO150 := n0_; have HB := n1_; clear n0_ n1_; clear hb ho4) | ((with_reducible refine gate_builtin (b := .append) (xs := #[.tmp 3, .tmp 4]) rfl ?_); at_builtin; refine Kd.R_append_rows (Kd.int .i64) (w0 := w) w.heap.size rfl (.tmp 3) (.tmp 4) 22 2 (.int .i64 0) 8 rfl Try.underlying22 info2 rfl (by decide) (by omega) v149 y148 l0 _ _ _ (fun _ => True) (fun _ => False) rfl rfl ?aO ?aR (fun _ _ h => h) (fun _ h => h.elim) ?aF ?aB ?aS ?aL ?_; (case aR => repeat (first | exact (bl HR0.out HB.out) | (with_reducible refine ak ?_ _) | (with_reducible refine al ?_ _) | (with_reducible refine am ?_))); (case aB => exact (by repeat (first | (with_reducible first | exact HB.out | apply ah | apply ae | apply ag) | exact HB.out))); (case aF => exact (fun _ _ => trivial)); (case aO => exact (by (with_reducible repeat (first | apply ab | apply ac | apply af)); exact HO150.out)); (case aS => exact (ar (by repeat (first | (with_reducible first | exact HB.out | apply ah | apply ae | apply ag) | exact HB.out)))); (case aL => have := LMc2.out; omega); intro v152 w5 ho hb hg hat; rw [← Ny151.out] at ho; have n0_ := aa (hb); have n1_ := aa (ho); clear HB; clear HO150; have HB := n0_; have HO153 := n1_; clear n0_ n1_; clear ho hb hg hat))
  go_ret
  exact ⟨_, by first | rfl | (simp [errW_none, errW_some] <;> rfl) | (simp [*, errW_none, errW_some] <;> rfl), by (with_reducible repeat (first | apply ab | apply ac | apply af)); exact HO153.out, by repeat (first | (with_reducible first | exact HB.out | apply ah | apply ae | apply ag) | exact HB.out)⟩
 ·rw [if_neg c2] at H
  exact absurd H (by simp)

/-! ### spec_ApplyRepairs: function 33 -/
def spec_ApplyRepairs.l0 : Nat → List (S64) → List Int → Int → Option (List Int × Int)
 | 0, _, _, _ => none
 | k + 1, x1, x7, x8 => if x8 < (x1.length : Int) then (if 0 ≤ x8 then (if 0 ≤ ((rd_T64 x1 x8).f0) then (if ((rd_T64 x1 x8).f0) < (x7.length : Int) then (if (rd x7 ((rd_T64 x1 x8).f0)) = ((rd_T64 x1 x8).f1) then (spec_ApplyRepairs.l0 k x1 (x7.set (((rd_T64 x1 x8).f0) : Int).toNat ((rd_T64 x1 x8).f2)) (wrap64 (x8 + 1))) else (some (([] : List Int), 9))) else (none)) else (none)) else (none)) else (some (x7, 0))
def spec_ApplyRepairs.f (k : Nat) (l0 : List Int) (l1 : List (S64)) : Option (List Int × Int) := (spec_l22Code.f k l0 l1).bind fun t154 => (if t154 = 0 then ((spec_l00Own.f l0).bind fun t155 => (spec_ApplyRepairs.l0 k l1 t155 0)) else (some (([] : List Int), t154)))
theorem spec_ApplyRepairs.mono_l : ∀ k, (∀ y0 y1 y2, LeO (spec_ApplyRepairs.l0 k y0 y1 y2) (spec_ApplyRepairs.l0 (k + 1) y0 y1 y2))
 | 0 => fun _ _ _ r h => by simp [spec_ApplyRepairs.l0] at h
 | k + 1 => by
  have ih0 := spec_ApplyRepairs.mono_l k
  ·intro y0 y1 y2
   unfold spec_ApplyRepairs.l0
   repeat' first
   | (with_reducible exact ih0 _ _ _)
   | (with_reducible exact spec_l22Code.mono _ _ _)
   | (with_reducible exact LeO.refl _)
   | (with_reducible exact LeO.none _)
   | (with_reducible refine LeO.ite ?_ ?_)
   | (with_reducible refine LeO.bind ?_ (fun _ => ?_))
   | exact ih0 _ _ _
   | exact spec_l22Code.mono _ _ _
   | exact LeO.none _
   | refine LeO.ite ?_ ?_
   | refine LeO.bind ?_ (fun _ => ?_)
theorem spec_ApplyRepairs.mono : ∀ a0 a1 k, LeO (spec_ApplyRepairs.f k a0 a1) (spec_ApplyRepairs.f (k + 1) a0 a1) := by
 intro a0 a1 k
 have ih0 := spec_ApplyRepairs.mono_l k
 unfold spec_ApplyRepairs.f
 repeat' first
   | (with_reducible exact ih0 _ _ _)
   | (with_reducible exact spec_l22Code.mono _ _ _)
   | (with_reducible exact LeO.refl _)
   | (with_reducible exact LeO.none _)
   | (with_reducible refine LeO.ite ?_ ?_)
   | (with_reducible refine LeO.bind ?_ (fun _ => ?_))
   | exact ih0 _ _ _
   | exact spec_l22Code.mono _ _ _
   | exact LeO.none _
   | refine LeO.ite ?_ ?_
   | refine LeO.bind ?_ (fun _ => ?_)
set_option maxHeartbeats 8000000 in
set_option maxRecDepth 100000 in
theorem spec_ApplyRepairs.calls (k : Nat) (A0 : Option Addr) (c0 : Nat) (l0 : List Int) (A1 : Option Addr) (c1 : Nat) (l1 : List (S64)) (r1 : List Int) (r2 : Int) (w : World) (hr0 : Kd.C (Kd.int .i64) w A0 l0.length l0) (hc0 : l0.length ≤ c0) (hr1 : Kd.C k64 w A1 l1.length l1) (hc1 : l1.length ≤ c1) (h : spec_ApplyRepairs.f k l0 l1 = some (r1, r2)) :
  Calls Try.prog 33 #[.slice A0 l0.length c0, .slice A1 l1.length c1] w fun e w' => ∃ v0_ : Value, e = .returned (.tuple #[v0_, .int .i64 r2]) ∧ Kd.R (Kd.int .i64) 2 w' w.heap.size (fun _ => True) v0_ r1 ∧ Below w.heap.size w w' := by
 have hu64 := Try.underlying64
 have HR0 := aa hr0
 have HC0 := aa hc0
 clear hr0 hc0
 have HR1 := aa hr1
 have HC1 := aa hc1
 clear hr1 hc1
 have HB := aa (Below.refl w.heap.size w)
 have H : ((spec_l22Code.f k l0 l1).bind fun t154 => (if t154 = 0 then ((spec_l00Own.f l0).bind fun t155 => (spec_ApplyRepairs.l0 k l1 t155 0)) else (some (([] : List Int), t154)))) = some (r1, r2) := h
 clear h
 replace H := bm.mp H
 obtain ⟨t154, A30, H⟩ := H
 (try dsimp only at H)
 have A3 := aa A30
 clear A30
 by_cases c4 : t154 = 0
 ·rw [if_pos c4] at H
  have c4b0 : (t154 == 0) = true := beq_iff_eq.mpr c4
  have c4b1 : (t154 != 0) = false := bne_eq_false_iff_eq.mpr c4
  clear c4
  replace H := bm.mp H
  obtain ⟨t155, A50, H⟩ := H
  replace H : (spec_ApplyRepairs.l0 k l1 t155 0) = some (r1, r2) := H
  have A5 := aa A50
  clear A50
  have H' := aa H
  clear H
  go_enter Try.func33, Try.ntmps33
  go_wp2_with (first | (go_at_call 67; (with_reducible refine (spec_l22Code.calls k _ _ l0 _ _ l1 t154 _ ?side1 ?side2 ?side3 ?side4 A3.out).mono ?_); (case side1 => repeat (first | exact HR0.out | (with_reducible refine ak ?_ _) | (with_reducible refine al ?_ _) | (with_reducible refine am ?_))); (case side2 => exact HC0.out); (case side3 => repeat (first | exact HR1.out | (with_reducible refine ak ?_ _) | (with_reducible refine al ?_ _) | (with_reducible refine am ?_))); (case side4 => exact HC1.out); rintro e w' ⟨rfl, ⟨nd, rfl⟩⟩; (try first | exact ⟨rfl, _, aj _ _ _⟩ | exact ⟨rfl, _, Eq.trans (aj _ _ _) (congrArg (World.drewN _) (Nat.add_assoc _ _ _))⟩)) | (go_at_call 68; (with_reducible refine (spec_l00Own.calls _ _ l0 t155 _ ?side1 ?side2 A5.out).mono ?_); (case side1 => repeat (first | exact HR0.out | (with_reducible refine ak ?_ _) | (with_reducible refine al ?_ _) | (with_reducible refine am ?_))); (case side2 => exact HC0.out); rintro e w6 ⟨v156, rfl, ho0, hb⟩; have n0_ := aa (bd ho0 (ar (by repeat (first | (with_reducible first | exact HB.out | apply ah | apply ae | apply ag) | exact HB.out)))); have n1_ := aa (ay (by repeat (first | (with_reducible first | exact HB.out | apply ah | apply ae | apply ag) | exact HB.out)) hb); clear HB; have HO157 := n0_; have HB := n1_; clear n0_ n1_; (try clear hb); (try clear hb2); (try clear hk); (try clear hi); (try clear ho0)))
  repeat (go_quiet (first | (go_at_call 67; (with_reducible refine (spec_l22Code.calls k _ _ l0 _ _ l1 t154 _ ?side1 ?side2 ?side3 ?side4 A3.out).mono ?_); (case side1 => repeat (first | exact HR0.out | (with_reducible refine ak ?_ _) | (with_reducible refine al ?_ _) | (with_reducible refine am ?_))); (case side2 => exact HC0.out); (case side3 => repeat (first | exact HR1.out | (with_reducible refine ak ?_ _) | (with_reducible refine al ?_ _) | (with_reducible refine am ?_))); (case side4 => exact HC1.out); rintro e w' ⟨rfl, ⟨nd, rfl⟩⟩; (try first | exact ⟨rfl, _, aj _ _ _⟩ | exact ⟨rfl, _, Eq.trans (aj _ _ _) (congrArg (World.drewN _) (Nat.add_assoc _ _ _))⟩)) | (go_at_call 68; (with_reducible refine (spec_l00Own.calls _ _ l0 t155 _ ?side1 ?side2 A5.out).mono ?_); (case side1 => repeat (first | exact HR0.out | (with_reducible refine ak ?_ _) | (with_reducible refine al ?_ _) | (with_reducible refine am ?_))); (case side2 => exact HC0.out); rintro e w6 ⟨v156, rfl, ho0, hb⟩; have n0_ := aa (bd ho0 (ar (by repeat (first | (with_reducible first | exact HB.out | apply ah | apply ae | apply ag) | exact HB.out)))); have n1_ := aa (ay (by repeat (first | (with_reducible first | exact HB.out | apply ah | apply ae | apply ag) | exact HB.out)) hb); clear HB; have HO157 := n0_; have HB := n1_; clear n0_ n1_; (try clear hb); (try clear hb2); (try clear hk); (try clear hi); (try clear ho0))); try go_wp2)
  go_loopg [8] k (fun kq v8 w' => ∃ (x7_1 : List Int) (x8_1 : Int), v8 = .int .i64 x8_1 ∧ Aside0 (spec_ApplyRepairs.l0 kq l1 x7_1 x8_1 = some (r1, r2)) ∧ Aside0 (kq ≤ k) ∧ Aside0 (Kd.R (Kd.int .i64) 2 w' w.heap.size (fun _ => True) v156 x7_1) ∧ Aside0 (Below w.heap.size w w'))
  case atStart => exact ⟨(t155), (0), (by first | rfl | (simp; done) | (simp [*]; done)), H', ⟨Nat.le_refl _⟩, ⟨by (with_reducible repeat (first | apply ab | apply ac | apply af)); exact HO157.out⟩, ⟨by repeat (first | (with_reducible first | exact HB.out | apply ah | apply ae | apply ag) | exact HB.out)⟩⟩
  case round =>
   clear H'
   try clear c1
   try clear p2
   try clear c3
   try clear c4
   try clear c4b0
   try clear c4b1
   obtain ⟨x7_1, x8_1, rfl, HA, HK1, HO_7, HB⟩ := hrel
   cases gk with
   | zero => exact absurd HA.out (by simp [spec_ApplyRepairs.l0])
   | succ k1 =>
    have H := HA.out
    clear HA
    simp only [spec_ApplyRepairs.l0] at H
    by_cases c7 : x8_1 < (l1.length : Int)
    ·rw [if_pos c7] at H
     have c7b0 : decide (x8_1 < (l1.length : Int)) = true := decide_eq_true c7
     clear c7
     by_cases c8 : 0 ≤ x8_1
     ·rw [if_pos c8] at H
      have c8b0 : decide (0 ≤ x8_1) = true := decide_eq_true c8
      clear c8
      by_cases c9 : 0 ≤ ((rd_T64 l1 x8_1).f0)
      ·rw [if_pos c9] at H
       have c9b0 : decide (0 ≤ ((rd_T64 l1 x8_1).f0)) = true := decide_eq_true c9
       clear c9
       by_cases c10 : ((rd_T64 l1 x8_1).f0) < (x7_1.length : Int)
       ·rw [if_pos c10] at H
        have c10b0 : decide (((rd_T64 l1 x8_1).f0) < (x7_1.length : Int)) = true := decide_eq_true c10
        clear c10
        by_cases c11 : (rd x7_1 ((rd_T64 l1 x8_1).f0)) = ((rd_T64 l1 x8_1).f1)
        ·rw [if_pos c11] at H
         have c11b0 : ((rd x7_1 ((rd_T64 l1 x8_1).f0)) == ((rd_T64 l1 x8_1).f1)) = true := beq_iff_eq.mpr c11
         have c11b1 : ((rd x7_1 ((rd_T64 l1 x8_1).f0)) != ((rd_T64 l1 x8_1).f1)) = false := bne_eq_false_iff_eq.mpr c11
         clear c11
         obtain ⟨y161, hy161⟩ : ∃ y_ : List Int, y_ = (x7_1.set (((rd_T64 l1 x8_1).f0) : Int).toNat ((rd_T64 l1 x8_1).f2)) := ⟨_, rfl⟩
         replace H : (spec_ApplyRepairs.l0 k1 l1 y161 (wrap64 (x8_1 + 1))) = some (r1, r2) := by first | (rw [hy161]; with_reducible exact H) | (have H2_ := (Option.bind_some _ _).symm.trans H; rw [hy161]; with_reducible exact H2_) | (have H2_ := (Option.bind_some _ _).symm.trans H; with_reducible exact H2_) | with_reducible exact H | (rw [hy161]; exact H) | exact H
         have Ny161 := aa hy161
         clear hy161
         have H' := aa H
         clear H
         have p158 : 0 ≤ (x8_1 : Int) := of_decide_eq_true (by first | (with_reducible assumption) | assumption)
         have q158 : x8_1 < (l1.length : Int) := of_decide_eq_true (by first | (with_reducible assumption) | assumption)
         obtain ⟨ad158, e158, hx158_0, hx158_1, hx158_2⟩ := at_T64 HR1.out x8_1 p158 q158
         cases e158
         replace hx158_0 := (HB.out.cell (World.block_lt_of_cell? w _ hx158_0)).trans hx158_0
         replace hx158_1 := (HB.out.cell (World.block_lt_of_cell? w _ hx158_1)).trans hx158_1
         replace hx158_2 := (HB.out.cell (World.block_lt_of_cell? w _ hx158_2)).trans hx158_2
         replace p158 := eq_true p158
         replace q158 := eq_true q158
         go_wp2_with (first | ((with_reducible refine gate_dst (N := 9) rfl ?_); refine box_event ?hg (N := 9) ?hd (cs := #[.int .i64 0, .int .i64 0, .int .i64 0]) (t := 64) ?hr ?_; (case hd => rfl); (case hg => rfl); (case hr => first | (go_simp; done) | (go_simp; rfl)); intro gb159 hg w13 hbox hb; have n0_ := aa (aq (by (with_reducible repeat (first | apply ab | apply ac | apply af)); exact HO_7.out) hb); have n1_ := aa (ay (by repeat (first | (with_reducible first | exact HB.out | apply ah | apply ae | apply ag) | exact HB.out)) hb); have n2_ := aa (hbox); have n3_ := aa ((by rw [hg]; exact (ar (by repeat (first | (with_reducible first | exact HB.out | apply ah | apply ae | apply ag) | exact HB.out))) : w.heap.size ≤ gb159)); have n4_ := aa ((by rw [hg]; exact (ar (by repeat (first | (with_reducible first | exact HB.out | apply ah | apply ae | apply ag) | exact HB.out))) : w.heap.size ≤ gb159)); clear HO_7; clear HB; have HO_7 := n0_; have HB := n1_; have BK159 := n2_; have GW159 := n3_; have GE159 := n4_; clear n0_ n1_ n2_ n3_ n4_; clear hb hbox hg; have hcz14_0 : w13.cell? ⟨gb159, 0, none⟩ = some (.int .i64 0) := (be BK159.out 0).trans rfl; have hcz14_1 : w13.cell? ⟨gb159, 1, none⟩ = some (.int .i64 0) := (be BK159.out 1).trans rfl; have hcz14_2 : w13.cell? ⟨gb159, 2, none⟩ = some (.int .i64 0) := (be BK159.out 2).trans rfl; have hfz14_0 := bb BK159.out 0; have hfz14_1 := bb BK159.out 1; have hfz14_2 := bb BK159.out 2) | ((with_reducible refine gate_store (t := 64) (p := 9) rfl ?_); (try (rw [drewN_self w13]; generalize hq_ : World.drewN w13 _ = w13; have n0_ := aa (Kd.R_at hq_ HO_7.out); have n1_ := aa (blk_at hq_ BK159.out); have n2_ := aa (below_at hq_ HB.out); clear hq_ HO_7 BK159 HB; have HO_7 := n0_; have BK159 := n1_; have HB := n2_; clear n0_ n1_ n2_)); refine store_event (t := 64) (p := 9) (v := ?vo_w15) (w1 := (((w13.setCell ⟨gb159, 0, none⟩ (.int .i64 ((rd_T64 l1 x8_1).f0))).setCell ⟨gb159, 1, none⟩ (.int .i64 ((rd_T64 l1 x8_1).f1))).setCell ⟨gb159, 2, none⟩ (.int .i64 ((rd_T64 l1 x8_1).f2)))) ?hg ?ho ?hn ?hr ?_; (case ho => rfl); (case hg => rfl); (case hn => rfl); (case hr => first | (go_simp; done) | (go_simp; rfl)); intro w15 hw; have n0_ : Aside0 (Kd.R (Kd.int .i64) 2 w15 w.heap.size (fun _ => True) v156 x7_1) := ⟨(by rw [hw]; exact (by (with_reducible repeat (first | apply ab | apply ac | apply af)); exact an (Kd.R_far (p := ⟨gb159, 2, none⟩) (Kd.R_far (p := ⟨gb159, 1, none⟩) (Kd.R_far (p := ⟨gb159, 0, none⟩) (Kd.R_types HO_7.out BK159.out (by decide)) (fun _ hk => hk.2) (.int .i64 ((rd_T64 l1 x8_1).f0))) (fun _ hk => hk.2) (.int .i64 ((rd_T64 l1 x8_1).f1))) (fun _ hk => hk.2) (.int .i64 ((rd_T64 l1 x8_1).f2))) (fun _ hk => trivial)))⟩; have n1_ : Aside0 (w15.heap[gb159]? = some (.cells #[.int .i64 ((rd_T64 l1 x8_1).f0), .int .i64 ((rd_T64 l1 x8_1).f1), .int .i64 ((rd_T64 l1 x8_1).f2)] 64 (0, 0))) := ⟨(by rw [hw]; exact (by (with_reducible repeat (first | refine bh ?_ _ | refine bk ?_ | refine bi ?_ _)); refine blk_put (cs := #[.int .i64 ((rd_T64 l1 x8_1).f0), .int .i64 ((rd_T64 l1 x8_1).f1), .int .i64 0]) ?_ 2 _ rfl; (with_reducible repeat (first | refine bh ?_ _ | refine bk ?_ | refine bi ?_ _)); refine blk_put (cs := #[.int .i64 ((rd_T64 l1 x8_1).f0), .int .i64 0, .int .i64 0]) ?_ 1 _ rfl; (with_reducible repeat (first | refine bh ?_ _ | refine bk ?_ | refine bi ?_ _)); refine blk_put (cs := #[.int .i64 0, .int .i64 0, .int .i64 0]) ?_ 0 _ rfl; (with_reducible repeat (first | refine bh ?_ _ | refine bk ?_ | refine bi ?_ _)); exact BK159.out))⟩; have n2_ : Aside0 (Below w.heap.size w w15) := ⟨(by rw [hw]; exact (by repeat (first | (with_reducible first | exact HB.out | apply ah | apply ae | apply ag | refine ao ?_ GE159.out) | exact HB.out)))⟩; clear hw; clear HO_7; clear BK159; clear HB; have HO_7 := n0_; have BK159 := n1_; have HB := n2_; clear n0_ n1_ n2_; have hcz16_0 : w15.cell? ⟨gb159, 0, none⟩ = some (.int .i64 ((rd_T64 l1 x8_1).f0)) := (be BK159.out 0).trans rfl; have hcz16_1 : w15.cell? ⟨gb159, 1, none⟩ = some (.int .i64 ((rd_T64 l1 x8_1).f1)) := (be BK159.out 1).trans rfl; have hcz16_2 : w15.cell? ⟨gb159, 2, none⟩ = some (.int .i64 ((rd_T64 l1 x8_1).f2)) := (be BK159.out 2).trans rfl; have hfz16_0 := bb BK159.out 0; have hfz16_1 := bb BK159.out 1; have hfz16_2 := bb BK159.out 2; obtain ⟨Ao17, co17, eo17⟩ := ap HO_7.out; subst eo17; have p160 : 0 ≤ (((rd_T64 l1 x8_1).f0) : Int) := of_decide_eq_true (by first | (with_reducible assumption) | assumption); have q160 : ((rd_T64 l1 x8_1).f0) < (x7_1.length : Int) := of_decide_eq_true (by first | (with_reducible assumption) | assumption); obtain ⟨ad160, e160, hx160_0⟩ := bj (ai HO_7.out).2.2 ((rd_T64 l1 x8_1).f0) p160 q160; cases e160; replace p160 := eq_true p160; replace q160 := eq_true q160; have p12 : 0 ≤ (((rd_T64 l1 x8_1).f0) : Int) := of_decide_eq_true (by first | (with_reducible assumption) | assumption); have q12 : (((rd_T64 l1 x8_1).f0) : Int) < ((x7_1.length : Int) : Int) := of_decide_eq_true (by first | (with_reducible assumption) | assumption); obtain ⟨go12, co12, eo12, gb12, gl12, cl12, HG12⟩ := Kd.R_form HO_7.out (by omega); (first | cases eo12 | (injection eo12 with ea_ en_ ec_; (first | subst ea_ | (injection ea_ with ea_; subst ea_)); subst ec_; clear en_)); have GB12 := aa gb12; have GG12 := aa HG12; clear gb12 gl12 HG12; (first | simp only [add_plain] at hx160_0 | skip); obtain ⟨hx12_0, hf12_0⟩ := Kd.R_celln 0 HO_7.out (((rd_T64 l1 x8_1).f0) : Int) p12 q12; replace p12 := eq_true p12; replace q12 := eq_true q12; obtain ⟨hy18_, hz18_⟩ := Kd.R_celln 0 HO_7.out (((rd_T64 l1 x8_1).f0) : Int) (of_decide_eq_true (by first | (with_reducible assumption) | assumption)) (of_decide_eq_true (by first | (with_reducible assumption) | assumption)); have HP18 := Kd.R_putg HO_7.out (((rd_T64 l1 x8_1).f0) : Int) ((rd_T64 l1 x8_1).f2)) | ((with_reducible refine gate_store (t := 2) (p := 41) rfl ?_); (try (rw [drewN_self w15]; generalize hq_ : World.drewN w15 _ = w15; have n0_ := aa (Kd.R_at hq_ HO_7.out); have n1_ := aa (blk_at hq_ BK159.out); have n2_ := aa (below_at hq_ HB.out); clear hq_ HO_7 BK159 HB; have HO_7 := n0_; have BK159 := n1_; have HB := n2_; clear n0_ n1_ n2_; (try (obtain ⟨hy18_, hz18_⟩ := Kd.R_celln 0 HO_7.out (((rd_T64 l1 x8_1).f0) : Int) (of_decide_eq_true (by first | (with_reducible assumption) | assumption)) (of_decide_eq_true (by first | (with_reducible assumption) | assumption)))); (try (have HP18 := Kd.R_putg HO_7.out (((rd_T64 l1 x8_1).f0) : Int) ((rd_T64 l1 x8_1).f2))))); refine store_event (t := 2) (p := 41) (v := ?vo_w19) (w1 := (w15.setCell ⟨go12, (((rd_T64 l1 x8_1).f0) : Int).toNat, none⟩ (.int .i64 ((rd_T64 l1 x8_1).f2)))) ?hg ?ho ?hn ?hr ?_; (case ho => rfl); (case hg => rfl); (case hn => rfl); (case hr => first | (go_simp; done) | (go_simp; rfl)); intro w19 hw; have hg : w15.grownBy w19 (some go12) := (by rw [hw]; exact HP18.2); have hp_ : Kd.R (Kd.int .i64) 2 w19 w.heap.size (fun _ => True) (.slice (some ⟨go12, 0, none⟩) x7_1.length co17) y161 := (by rw [hw, Ny161.out]; exact HP18.1); clear HP18; have n0_ := aa (hp_); have n1_ := aa (blk_grown (g := gb159) (o := .cells #[.int .i64 ((rd_T64 l1 x8_1).f0), .int .i64 ((rd_T64 l1 x8_1).f1), .int .i64 ((rd_T64 l1 x8_1).f2)] 64 (0, 0)) (by (with_reducible repeat (first | refine bh ?_ _ | refine bk ?_ | refine bi ?_ _)); exact BK159.out) hg (Kd.R_ne HO_7.out BK159.out (by decide))); have n2_ := aa ((by rw [hw]; exact ao (HB.out) GB12.out : Below w.heap.size w w19)); clear HO_7; clear BK159; clear HB; have HO_7 := n0_; have BK159 := n1_; have HB := n2_; clear n0_ n1_ n2_; clear hg hw hp_))
         repeat (go_quiet (fail); try go_wp2_with (first | ((with_reducible refine gate_dst (N := 9) rfl ?_); refine box_event ?hg (N := 9) ?hd (cs := #[.int .i64 0, .int .i64 0, .int .i64 0]) (t := 64) ?hr ?_; (case hd => rfl); (case hg => rfl); (case hr => first | (go_simp; done) | (go_simp; rfl)); intro gb159 hg w13 hbox hb; have n0_ := aa (aq (by (with_reducible repeat (first | apply ab | apply ac | apply af)); exact HO_7.out) hb); have n1_ := aa (ay (by repeat (first | (with_reducible first | exact HB.out | apply ah | apply ae | apply ag) | exact HB.out)) hb); have n2_ := aa (hbox); have n3_ := aa ((by rw [hg]; exact (ar (by repeat (first | (with_reducible first | exact HB.out | apply ah | apply ae | apply ag) | exact HB.out))) : w.heap.size ≤ gb159)); have n4_ := aa ((by rw [hg]; exact (ar (by repeat (first | (with_reducible first | exact HB.out | apply ah | apply ae | apply ag) | exact HB.out))) : w.heap.size ≤ gb159)); clear HO_7; clear HB; have HO_7 := n0_; have HB := n1_; have BK159 := n2_; have GW159 := n3_; have GE159 := n4_; clear n0_ n1_ n2_ n3_ n4_; clear hb hbox hg; have hcz14_0 : w13.cell? ⟨gb159, 0, none⟩ = some (.int .i64 0) := (be BK159.out 0).trans rfl; have hcz14_1 : w13.cell? ⟨gb159, 1, none⟩ = some (.int .i64 0) := (be BK159.out 1).trans rfl; have hcz14_2 : w13.cell? ⟨gb159, 2, none⟩ = some (.int .i64 0) := (be BK159.out 2).trans rfl; have hfz14_0 := bb BK159.out 0; have hfz14_1 := bb BK159.out 1; have hfz14_2 := bb BK159.out 2) | ((with_reducible refine gate_store (t := 64) (p := 9) rfl ?_); (try (rw [drewN_self w13]; generalize hq_ : World.drewN w13 _ = w13; have n0_ := aa (Kd.R_at hq_ HO_7.out); have n1_ := aa (blk_at hq_ BK159.out); have n2_ := aa (below_at hq_ HB.out); clear hq_ HO_7 BK159 HB; have HO_7 := n0_; have BK159 := n1_; have HB := n2_; clear n0_ n1_ n2_)); refine store_event (t := 64) (p := 9) (v := ?vo_w15) (w1 := (((w13.setCell ⟨gb159, 0, none⟩ (.int .i64 ((rd_T64 l1 x8_1).f0))).setCell ⟨gb159, 1, none⟩ (.int .i64 ((rd_T64 l1 x8_1).f1))).setCell ⟨gb159, 2, none⟩ (.int .i64 ((rd_T64 l1 x8_1).f2)))) ?hg ?ho ?hn ?hr ?_; (case ho => rfl); (case hg => rfl); (case hn => rfl); (case hr => first | (go_simp; done) | (go_simp; rfl)); intro w15 hw; have n0_ : Aside0 (Kd.R (Kd.int .i64) 2 w15 w.heap.size (fun _ => True) v156 x7_1) := ⟨(by rw [hw]; exact (by (with_reducible repeat (first | apply ab | apply ac | apply af)); exact an (Kd.R_far (p := ⟨gb159, 2, none⟩) (Kd.R_far (p := ⟨gb159, 1, none⟩) (Kd.R_far (p := ⟨gb159, 0, none⟩) (Kd.R_types HO_7.out BK159.out (by decide)) (fun _ hk => hk.2) (.int .i64 ((rd_T64 l1 x8_1).f0))) (fun _ hk => hk.2) (.int .i64 ((rd_T64 l1 x8_1).f1))) (fun _ hk => hk.2) (.int .i64 ((rd_T64 l1 x8_1).f2))) (fun _ hk => trivial)))⟩; have n1_ : Aside0 (w15.heap[gb159]? = some (.cells #[.int .i64 ((rd_T64 l1 x8_1).f0), .int .i64 ((rd_T64 l1 x8_1).f1), .int .i64 ((rd_T64 l1 x8_1).f2)] 64 (0, 0))) := ⟨(by rw [hw]; exact (by (with_reducible repeat (first | refine bh ?_ _ | refine bk ?_ | refine bi ?_ _)); refine blk_put (cs := #[.int .i64 ((rd_T64 l1 x8_1).f0), .int .i64 ((rd_T64 l1 x8_1).f1), .int .i64 0]) ?_ 2 _ rfl; (with_reducible repeat (first | refine bh ?_ _ | refine bk ?_ | refine bi ?_ _)); refine blk_put (cs := #[.int .i64 ((rd_T64 l1 x8_1).f0), .int .i64 0, .int .i64 0]) ?_ 1 _ rfl; (with_reducible repeat (first | refine bh ?_ _ | refine bk ?_ | refine bi ?_ _)); refine blk_put (cs := #[.int .i64 0, .int .i64 0, .int .i64 0]) ?_ 0 _ rfl; (with_reducible repeat (first | refine bh ?_ _ | refine bk ?_ | refine bi ?_ _)); exact BK159.out))⟩; have n2_ : Aside0 (Below w.heap.size w w15) := ⟨(by rw [hw]; exact (by repeat (first | (with_reducible first | exact HB.out | apply ah | apply ae | apply ag | refine ao ?_ GE159.out) | exact HB.out)))⟩; clear hw; clear HO_7; clear BK159; clear HB; have HO_7 := n0_; have BK159 := n1_; have HB := n2_; clear n0_ n1_ n2_; have hcz16_0 : w15.cell? ⟨gb159, 0, none⟩ = some (.int .i64 ((rd_T64 l1 x8_1).f0)) := (be BK159.out 0).trans rfl; have hcz16_1 : w15.cell? ⟨gb159, 1, none⟩ = some (.int .i64 ((rd_T64 l1 x8_1).f1)) := (be BK159.out 1).trans rfl; have hcz16_2 : w15.cell? ⟨gb159, 2, none⟩ = some (.int .i64 ((rd_T64 l1 x8_1).f2)) := (be BK159.out 2).trans rfl; have hfz16_0 := bb BK159.out 0; have hfz16_1 := bb BK159.out 1; have hfz16_2 := bb BK159.out 2; obtain ⟨Ao17, co17, eo17⟩ := ap HO_7.out; subst eo17; have p160 : 0 ≤ (((rd_T64 l1 x8_1).f0) : Int) := of_decide_eq_true (by first | (with_reducible assumption) | assumption); have q160 : ((rd_T64 l1 x8_1).f0) < (x7_1.length : Int) := of_decide_eq_true (by first | (with_reducible assumption) | assumption); obtain ⟨ad160, e160, hx160_0⟩ := bj (ai HO_7.out).2.2 ((rd_T64 l1 x8_1).f0) p160 q160; cases e160; replace p160 := eq_true p160; replace q160 := eq_true q160; have p12 : 0 ≤ (((rd_T64 l1 x8_1).f0) : Int) := of_decide_eq_true (by first | (with_reducible assumption) | assumption); have q12 : (((rd_T64 l1 x8_1).f0) : Int) < ((x7_1.length : Int) : Int) := of_decide_eq_true (by first | (with_reducible assumption) | assumption); obtain ⟨go12, co12, eo12, gb12, gl12, cl12, HG12⟩ := Kd.R_form HO_7.out (by omega); (first | cases eo12 | (injection eo12 with ea_ en_ ec_; (first | subst ea_ | (injection ea_ with ea_; subst ea_)); subst ec_; clear en_)); have GB12 := aa gb12; have GG12 := aa HG12; clear gb12 gl12 HG12; (first | simp only [add_plain] at hx160_0 | skip); obtain ⟨hx12_0, hf12_0⟩ := Kd.R_celln 0 HO_7.out (((rd_T64 l1 x8_1).f0) : Int) p12 q12; replace p12 := eq_true p12; replace q12 := eq_true q12; obtain ⟨hy18_, hz18_⟩ := Kd.R_celln 0 HO_7.out (((rd_T64 l1 x8_1).f0) : Int) (of_decide_eq_true (by first | (with_reducible assumption) | assumption)) (of_decide_eq_true (by first | (with_reducible assumption) | assumption)); have HP18 := Kd.R_putg HO_7.out (((rd_T64 l1 x8_1).f0) : Int) ((rd_T64 l1 x8_1).f2)) | ((with_reducible refine gate_store (t := 2) (p := 41) rfl ?_); (try (rw [drewN_self w15]; generalize hq_ : World.drewN w15 _ = w15; have n0_ := aa (Kd.R_at hq_ HO_7.out); have n1_ := aa (blk_at hq_ BK159.out); have n2_ := aa (below_at hq_ HB.out); clear hq_ HO_7 BK159 HB; have HO_7 := n0_; have BK159 := n1_; have HB := n2_; clear n0_ n1_ n2_; (try (obtain ⟨hy18_, hz18_⟩ := Kd.R_celln 0 HO_7.out (((rd_T64 l1 x8_1).f0) : Int) (of_decide_eq_true (by first | (with_reducible assumption) | assumption)) (of_decide_eq_true (by first | (with_reducible assumption) | assumption)))); (try (have HP18 := Kd.R_putg HO_7.out (((rd_T64 l1 x8_1).f0) : Int) ((rd_T64 l1 x8_1).f2))))); refine store_event (t := 2) (p := 41) (v := ?vo_w19) (w1 := (w15.setCell ⟨go12, (((rd_T64 l1 x8_1).f0) : Int).toNat, none⟩ (.int .i64 ((rd_T64 l1 x8_1).f2)))) ?hg ?ho ?hn ?hr ?_; (case ho => rfl); (case hg => rfl); (case hn => rfl); (case hr => first | (go_simp; done) | (go_simp; rfl)); intro w19 hw; have hg : w15.grownBy w19 (some go12) := (by rw [hw]; exact HP18.2); have hp_ : Kd.R (Kd.int .i64) 2 w19 w.heap.size (fun _ => True) (.slice (some ⟨go12, 0, none⟩) x7_1.length co17) y161 := (by rw [hw, Ny161.out]; exact HP18.1); clear HP18; have n0_ := aa (hp_); have n1_ := aa (blk_grown (g := gb159) (o := .cells #[.int .i64 ((rd_T64 l1 x8_1).f0), .int .i64 ((rd_T64 l1 x8_1).f1), .int .i64 ((rd_T64 l1 x8_1).f2)] 64 (0, 0)) (by (with_reducible repeat (first | refine bh ?_ _ | refine bk ?_ | refine bi ?_ _)); exact BK159.out) hg (Kd.R_ne HO_7.out BK159.out (by decide))); have n2_ := aa ((by rw [hw]; exact ao (HB.out) GB12.out : Below w.heap.size w w19)); clear HO_7; clear BK159; clear HB; have HO_7 := n0_; have BK159 := n1_; have HB := n2_; clear n0_ n1_ n2_; clear hg hw hp_)))
         go_roundg k1
         case measure => have := HK1.out; omega
         case rel => exact ⟨(y161), (wrap64 (x8_1 + 1)), (by first | rfl | (simp; done) | (simp [*]; done)), H', ⟨by have := HK1.out; omega⟩, ⟨by (with_reducible repeat (first | apply ab | apply ac | apply af)); exact HO_7.out⟩, ⟨by repeat (first | (with_reducible first | exact HB.out | apply ah | apply ae | apply ag | refine ao ?_ GE159.out) | exact HB.out)⟩⟩
        ·rw [if_neg c11] at H
         have c11b0 : ((rd x7_1 ((rd_T64 l1 x8_1).f0)) == ((rd_T64 l1 x8_1).f1)) = false := beq_eq_false_iff_ne.mpr c11
         have c11b1 : ((rd x7_1 ((rd_T64 l1 x8_1).f0)) != ((rd_T64 l1 x8_1).f1)) = true := bne_iff_ne.mpr c11
         simp only [Option.some.injEq, Prod.mk.injEq] at H
         obtain ⟨rfl, rfl⟩ := H
         have p158 : 0 ≤ (x8_1 : Int) := of_decide_eq_true (by first | (with_reducible assumption) | assumption)
         have q158 : x8_1 < (l1.length : Int) := of_decide_eq_true (by first | (with_reducible assumption) | assumption)
         obtain ⟨ad158, e158, hx158_0, hx158_1, hx158_2⟩ := at_T64 HR1.out x8_1 p158 q158
         cases e158
         replace hx158_0 := (HB.out.cell (World.block_lt_of_cell? w _ hx158_0)).trans hx158_0
         replace hx158_1 := (HB.out.cell (World.block_lt_of_cell? w _ hx158_1)).trans hx158_1
         replace hx158_2 := (HB.out.cell (World.block_lt_of_cell? w _ hx158_2)).trans hx158_2
         replace p158 := eq_true p158
         replace q158 := eq_true q158
         go_wp2_with (first | ((with_reducible refine gate_dst (N := 9) rfl ?_); refine box_event ?hg (N := 9) ?hd (cs := #[.int .i64 0, .int .i64 0, .int .i64 0]) (t := 64) ?hr ?_; (case hd => rfl); (case hg => rfl); (case hr => first | (go_simp; done) | (go_simp; rfl)); intro gb159 hg w20 hbox hb; have n0_ := aa (aq (by (with_reducible repeat (first | apply ab | apply ac | apply af)); exact HO_7.out) hb); have n1_ := aa (ay (by repeat (first | (with_reducible first | exact HB.out | apply ah | apply ae | apply ag) | exact HB.out)) hb); have n2_ := aa (hbox); have n3_ := aa ((by rw [hg]; exact (ar (by repeat (first | (with_reducible first | exact HB.out | apply ah | apply ae | apply ag) | exact HB.out))) : w.heap.size ≤ gb159)); have n4_ := aa ((by rw [hg]; exact (ar (by repeat (first | (with_reducible first | exact HB.out | apply ah | apply ae | apply ag) | exact HB.out))) : w.heap.size ≤ gb159)); clear HO_7; clear HB; have HO_7 := n0_; have HB := n1_; have BK159 := n2_; have GW159 := n3_; have GE159 := n4_; clear n0_ n1_ n2_ n3_ n4_; clear hb hbox hg; have hcz21_0 : w20.cell? ⟨gb159, 0, none⟩ = some (.int .i64 0) := (be BK159.out 0).trans rfl; have hcz21_1 : w20.cell? ⟨gb159, 1, none⟩ = some (.int .i64 0) := (be BK159.out 1).trans rfl; have hcz21_2 : w20.cell? ⟨gb159, 2, none⟩ = some (.int .i64 0) := (be BK159.out 2).trans rfl; have hfz21_0 := bb BK159.out 0; have hfz21_1 := bb BK159.out 1; have hfz21_2 := bb BK159.out 2; obtain ⟨Ao22, co22, eo22⟩ := ap HO_7.out; subst eo22; have p160 : 0 ≤ (((rd_T64 l1 x8_1).f0) : Int) := of_decide_eq_true (by first | (with_reducible assumption) | assumption); have q160 : ((rd_T64 l1 x8_1).f0) < (x7_1.length : Int) := of_decide_eq_true (by first | (with_reducible assumption) | assumption); obtain ⟨ad160, e160, hx160_0⟩ := bj (ai HO_7.out).2.2 ((rd_T64 l1 x8_1).f0) p160 q160; cases e160; have hn160_0 : ad160.block ≠ gb159 := Kd.own_blk (Kd.R_ne HO_7.out BK159.out (by decide)); have hn160_1 : ad160.block ≠ gb159 := Kd.own_blk (Kd.R_ne HO_7.out BK159.out (by decide)); have hn160_2 : ad160.block ≠ gb159 := Kd.own_blk (Kd.R_ne HO_7.out BK159.out (by decide)); replace hx160_0 := (cell_far (p := ⟨gb159, 0, none⟩) (by first | (rw [bg]; exact hn160_0) | (show (Addr.add _ _).block ≠ _; rw [bg]; exact hn160_0) | exact hn160_0) (.int .i64 ((rd_T64 l1 x8_1).f0))).trans hx160_0; replace hx160_0 := (cell_far (p := ⟨gb159, 1, none⟩) (by first | (rw [bg]; exact hn160_1) | (show (Addr.add _ _).block ≠ _; rw [bg]; exact hn160_1) | exact hn160_1) (.int .i64 ((rd_T64 l1 x8_1).f1))).trans hx160_0; replace hx160_0 := (cell_far (p := ⟨gb159, 2, none⟩) (by first | (rw [bg]; exact hn160_2) | (show (Addr.add _ _).block ≠ _; rw [bg]; exact hn160_2) | exact hn160_2) (.int .i64 ((rd_T64 l1 x8_1).f2))).trans hx160_0; (try have hy160_0 := fun (n_ : Nat) => (show (((((w20.drewN n_).setCell ⟨gb159, 0, none⟩ (.int .i64 ((rd_T64 l1 x8_1).f0))).setCell ⟨gb159, 1, none⟩ (.int .i64 ((rd_T64 l1 x8_1).f1))).setCell ⟨gb159, 2, none⟩ (.int .i64 ((rd_T64 l1 x8_1).f2)))).cell? _ = some _ from hx160_0)); clear hn160_0; clear hn160_1; clear hn160_2; replace p160 := eq_true p160; replace q160 := eq_true q160))
         repeat (go_quiet (fail); try go_wp2_with (first | ((with_reducible refine gate_dst (N := 9) rfl ?_); refine box_event ?hg (N := 9) ?hd (cs := #[.int .i64 0, .int .i64 0, .int .i64 0]) (t := 64) ?hr ?_; (case hd => rfl); (case hg => rfl); (case hr => first | (go_simp; done) | (go_simp; rfl)); intro gb159 hg w20 hbox hb; have n0_ := aa (aq (by (with_reducible repeat (first | apply ab | apply ac | apply af)); exact HO_7.out) hb); have n1_ := aa (ay (by repeat (first | (with_reducible first | exact HB.out | apply ah | apply ae | apply ag) | exact HB.out)) hb); have n2_ := aa (hbox); have n3_ := aa ((by rw [hg]; exact (ar (by repeat (first | (with_reducible first | exact HB.out | apply ah | apply ae | apply ag) | exact HB.out))) : w.heap.size ≤ gb159)); have n4_ := aa ((by rw [hg]; exact (ar (by repeat (first | (with_reducible first | exact HB.out | apply ah | apply ae | apply ag) | exact HB.out))) : w.heap.size ≤ gb159)); clear HO_7; clear HB; have HO_7 := n0_; have HB := n1_; have BK159 := n2_; have GW159 := n3_; have GE159 := n4_; clear n0_ n1_ n2_ n3_ n4_; clear hb hbox hg; have hcz21_0 : w20.cell? ⟨gb159, 0, none⟩ = some (.int .i64 0) := (be BK159.out 0).trans rfl; have hcz21_1 : w20.cell? ⟨gb159, 1, none⟩ = some (.int .i64 0) := (be BK159.out 1).trans rfl; have hcz21_2 : w20.cell? ⟨gb159, 2, none⟩ = some (.int .i64 0) := (be BK159.out 2).trans rfl; have hfz21_0 := bb BK159.out 0; have hfz21_1 := bb BK159.out 1; have hfz21_2 := bb BK159.out 2; obtain ⟨Ao22, co22, eo22⟩ := ap HO_7.out; subst eo22; have p160 : 0 ≤ (((rd_T64 l1 x8_1).f0) : Int) := of_decide_eq_true (by first | (with_reducible assumption) | assumption); have q160 : ((rd_T64 l1 x8_1).f0) < (x7_1.length : Int) := of_decide_eq_true (by first | (with_reducible assumption) | assumption); obtain ⟨ad160, e160, hx160_0⟩ := bj (ai HO_7.out).2.2 ((rd_T64 l1 x8_1).f0) p160 q160; cases e160; have hn160_0 : ad160.block ≠ gb159 := Kd.own_blk (Kd.R_ne HO_7.out BK159.out (by decide)); have hn160_1 : ad160.block ≠ gb159 := Kd.own_blk (Kd.R_ne HO_7.out BK159.out (by decide)); have hn160_2 : ad160.block ≠ gb159 := Kd.own_blk (Kd.R_ne HO_7.out BK159.out (by decide)); replace hx160_0 := (cell_far (p := ⟨gb159, 0, none⟩) (by first | (rw [bg]; exact hn160_0) | (show (Addr.add _ _).block ≠ _; rw [bg]; exact hn160_0) | exact hn160_0) (.int .i64 ((rd_T64 l1 x8_1).f0))).trans hx160_0; replace hx160_0 := (cell_far (p := ⟨gb159, 1, none⟩) (by first | (rw [bg]; exact hn160_1) | (show (Addr.add _ _).block ≠ _; rw [bg]; exact hn160_1) | exact hn160_1) (.int .i64 ((rd_T64 l1 x8_1).f1))).trans hx160_0; replace hx160_0 := (cell_far (p := ⟨gb159, 2, none⟩) (by first | (rw [bg]; exact hn160_2) | (show (Addr.add _ _).block ≠ _; rw [bg]; exact hn160_2) | exact hn160_2) (.int .i64 ((rd_T64 l1 x8_1).f2))).trans hx160_0; (try have hy160_0 := fun (n_ : Nat) => (show (((((w20.drewN n_).setCell ⟨gb159, 0, none⟩ (.int .i64 ((rd_T64 l1 x8_1).f0))).setCell ⟨gb159, 1, none⟩ (.int .i64 ((rd_T64 l1 x8_1).f1))).setCell ⟨gb159, 2, none⟩ (.int .i64 ((rd_T64 l1 x8_1).f2)))).cell? _ = some _ from hx160_0)); clear hn160_0; clear hn160_1; clear hn160_2; replace p160 := eq_true p160; replace q160 := eq_true q160)))
         go_ret2
         exact ⟨_, by first | rfl | (simp [errW_none, errW_some] <;> rfl) | (simp [*, errW_none, errW_some] <;> rfl), by first | exact Kd.R_nil _ _ _ _ _ | exact Kd.N_nil _ _ _ _ _ | exact Kd.V_nil _ _ _ _ _ | exact Kd.Q_nil _ _ _ _ _ | exact Kd.S_nil _ _ _ _ _, by repeat (first | (with_reducible first | exact HB.out | apply ah | apply ae | apply ag | refine ao ?_ GE159.out) | exact HB.out)⟩
       ·rw [if_neg c10] at H
        exact absurd H (by simp)
      ·rw [if_neg c9] at H
       exact absurd H (by simp)
     ·rw [if_neg c8] at H
      exact absurd H (by simp)
    ·rw [if_neg c7] at H
     have c7b0 : decide (x8_1 < (l1.length : Int)) = false := decide_eq_false c7
     clear c7
     simp only [Option.some.injEq, Prod.mk.injEq] at H
     obtain ⟨rfl, rfl⟩ := H
     go_wp2
     repeat (go_quiet (fail); try go_wp2)
     go_ret2
     exact ⟨_, by first | rfl | (simp [errW_none, errW_some] <;> rfl) | (simp [*, errW_none, errW_some] <;> rfl), by (with_reducible repeat (first | apply ab | apply ac | apply af)); exact HO_7.out, by repeat (first | (with_reducible first | exact HB.out | apply ah | apply ae | apply ag) | exact HB.out)⟩
 ·rw [if_neg c4] at H
  have c4b0 : (t154 == 0) = false := beq_eq_false_iff_ne.mpr c4
  have c4b1 : (t154 != 0) = true := bne_iff_ne.mpr c4
  simp only [Option.some.injEq, Prod.mk.injEq] at H
  obtain ⟨rfl, rfl⟩ := H
  go_enter Try.func33, Try.ntmps33
  go_wp2_with (first | (go_at_call 67; (with_reducible refine (spec_l22Code.calls k _ _ l0 _ _ l1 t154 _ ?side1 ?side2 ?side3 ?side4 A3.out).mono ?_); (case side1 => repeat (first | exact HR0.out | (with_reducible refine ak ?_ _) | (with_reducible refine al ?_ _) | (with_reducible refine am ?_))); (case side2 => exact HC0.out); (case side3 => repeat (first | exact HR1.out | (with_reducible refine ak ?_ _) | (with_reducible refine al ?_ _) | (with_reducible refine am ?_))); (case side4 => exact HC1.out); rintro e w' ⟨rfl, ⟨nd, rfl⟩⟩; (try first | exact ⟨rfl, _, aj _ _ _⟩ | exact ⟨rfl, _, Eq.trans (aj _ _ _) (congrArg (World.drewN _) (Nat.add_assoc _ _ _))⟩)))
  repeat (go_quiet (first | (go_at_call 67; (with_reducible refine (spec_l22Code.calls k _ _ l0 _ _ l1 t154 _ ?side1 ?side2 ?side3 ?side4 A3.out).mono ?_); (case side1 => repeat (first | exact HR0.out | (with_reducible refine ak ?_ _) | (with_reducible refine al ?_ _) | (with_reducible refine am ?_))); (case side2 => exact HC0.out); (case side3 => repeat (first | exact HR1.out | (with_reducible refine ak ?_ _) | (with_reducible refine al ?_ _) | (with_reducible refine am ?_))); (case side4 => exact HC1.out); rintro e w' ⟨rfl, ⟨nd, rfl⟩⟩; (try first | exact ⟨rfl, _, aj _ _ _⟩ | exact ⟨rfl, _, Eq.trans (aj _ _ _) (congrArg (World.drewN _) (Nat.add_assoc _ _ _))⟩))); try go_wp2)
  go_ret2
  exact ⟨_, by first | rfl | (simp [errW_none, errW_some] <;> rfl) | (simp [*, errW_none, errW_some] <;> rfl), by first | exact Kd.R_nil _ _ _ _ _ | exact Kd.N_nil _ _ _ _ _ | exact Kd.V_nil _ _ _ _ _ | exact Kd.Q_nil _ _ _ _ _ | exact Kd.S_nil _ _ _ _ _, by repeat (first | (with_reducible first | exact HB.out | apply ah | apply ae | apply ag) | exact HB.out)⟩

/-! ### impl_isState: function 100 -/
def impl_isState.f (a0 : Int) : Option (Bool) := (impl_within.f a0 0 3).bind fun t162 => (some t162)
set_option maxHeartbeats 8000000 in
set_option maxRecDepth 100000 in
theorem impl_isState.calls (a0 : Int) (r : Bool) (w : World) (h : impl_isState.f a0 = some r) :
  Calls Try.prog 100 #[.int .i64 a0] w fun e w' => e = .returned (.bool r) ∧ Drawn0 w w' := by
 have H : ((impl_within.f a0 0 3).bind fun t162 => (some t162)) = some r := h
 clear h
 replace H := bm.mp H
 obtain ⟨t162, A20, H⟩ := H
 replace H : (some t162) = some r := H
 have A2 := aa A20
 clear A20
 obtain rfl := Option.some.inj H
 go_enter Try.func100, Try.ntmps100
 go_wp2_with (first | ((with_reducible refine gate_callee (f := 93) rfl ?_); refine goesL_ (some 4) rfl rfl Try.func93 (by kernel_rfl) rfl #[.int .i64 a0, .int .i64 0, .int .i64 3] rfl (by (try simp only [List.map_toArray, List.map_cons, List.map_nil]); first | done | rfl | (simp only [List.length_drop, List.length_take]; rfl)) ?_; (with_reducible refine (impl_within.calls a0 0 3 t162 _ A2.out).mono ?_); rintro e w' ⟨rfl, ⟨nd, rfl⟩⟩; refine ⟨_, rfl, ?_⟩))
 go_ret
 exact ⟨by first | rfl | (simp; done) | (simp [*]; done), by repeat (first | exact Drawn0.refl _ | apply Drawn0.step)⟩

/-! ### impl_check: function 101 -/
def impl_check.f (a0 : Bool) (a1 : Bool) : Option (Int) := if a0 = true then (if a1 = true then (some 0) else (some 2)) else (some 1)
set_option maxHeartbeats 8000000 in
set_option maxRecDepth 100000 in
theorem impl_check.calls (a0 : Bool) (a1 : Bool) (r : Int) (w : World) (h : impl_check.f a0 a1 = some r) :
  Calls Try.prog 101 #[.bool a0, .bool a1] w fun e w' => e = .returned (.int .i64 r) ∧ Drawn0 w w' := by
 have H : (if a0 = true then (if a1 = true then (some 0) else (some 2)) else (some 1)) = some r := h
 clear h
 by_cases c3 : a0 = true
 ·subst c3
  have H1 : (if a1 = true then (some 0) else (some 2)) = some r := by rw [if_pos rfl] at H; exact H
  clear H
  have H := H1
  clear H1
  by_cases c4 : a1 = true
  ·subst c4
   have H1 : (some 0) = some r := by rw [if_pos rfl] at H; exact H
   clear H
   have H := H1
   clear H1
   obtain rfl := Option.some.inj H
   go_enter Try.func101, Try.ntmps101
   go_wp2
   go_ret
   exact ⟨by first | rfl | (simp; done) | (simp [*]; done), by repeat (first | exact Drawn0.refl _ | apply Drawn0.step)⟩
  ·replace c4 := Bool.eq_false_iff.mpr c4
   subst c4
   have H1 : (some 2) = some r := by rw [if_neg (show ¬ (false = true) by decide)] at H; exact H
   clear H
   have H := H1
   clear H1
   obtain rfl := Option.some.inj H
   go_enter Try.func101, Try.ntmps101
   go_wp2
   go_ret
   exact ⟨by first | rfl | (simp; done) | (simp [*]; done), by repeat (first | exact Drawn0.refl _ | apply Drawn0.step)⟩
 ·replace c3 := Bool.eq_false_iff.mpr c3
  subst c3
  have H1 : (some 1) = some r := by rw [if_neg (show ¬ (false = true) by decide)] at H; exact H
  clear H
  have H := H1
  clear H1
  obtain rfl := Option.some.inj H
  go_enter Try.func101, Try.ntmps101
  go_wp2
  go_ret
  exact ⟨by first | rfl | (simp; done) | (simp [*]; done), by repeat (first | exact Drawn0.refl _ | apply Drawn0.step)⟩

-- inside a hand-given walk: function 119 (impl_Repair_119)

-- inside a hand-given walk: function 102 (impl_Repair_102)

end Go.Proofs.Ytfajacoagaamlaa.QFnRepairs
