/- Walks of the Go functions that the law FnExactRepairsFor reaches: written by a program of this session. -/
import Derived.Test.YtfajacoagaamlaaQFnExactRepairsForx0
import Derived.Test.YtfajacoagaamlaaQFnExactRepairsForx1
import Derived.Test.YtfajacoagaamlaaQFnExactRepairsForx2
import Derived.Test.YtfajacoagaamlaaQFnExactRepairsForx3
namespace Go.Proofs.Ytfajacoagaamlaa.QFnExactRepairsFor
open Go.RowKit Go.Proofs.YtfajacoagaamlaaW.PrintWords Go.Proofs.YtfajacoagaamlaaW.PrintLast Go.Proofs.YtfajacoagaamlaaW.PrintMore
attribute [local go_sem] max2_int min2_int max_two min_two max_three min_three max_four min_four   -- for this text's walks alone
set_option linter.unusedVariables false
set_option linter.unusedSimpArgs false

/-! ### impl_RepairsFor: function 43 -/
def impl_RepairsFor.l0 : Nat → List (List Int) → List (S64) → List Int → Int → Int → Option ((List (S64)) × Int)
  | 0, _, _, _, _, _ => none
  | k + 1, x1, x7, x18, x19, x20 => if x20 < x19 then (if 0 ≤ x20 then (if x20 < (x18.length : Int) then (if (rd x18 x20) = 1 then ((impl_isCopied.f x1 x20).bind fun t150 => (if t150 = true then (if x7.length < 5864062014805 then (impl_RepairsFor.l0 k x1 (x7 ++ [(⟨x20, 1, 2⟩ : S64)]) x18 x19 (wrap64 (x20 + 1))) else (none)) else (if x7.length < 5864062014805 then (impl_RepairsFor.l0 k x1 (x7 ++ [(⟨x20, 1, 3⟩ : S64)]) x18 x19 (wrap64 (x20 + 1))) else (none)))) else (impl_RepairsFor.l0 k x1 x7 x18 x19 (wrap64 (x20 + 1)))) else (none)) else (none)) else (some (x7, 0))
def impl_RepairsFor.f (k : Nat) (l0 : List Int) (l1 : List (List Int)) : Option ((List (S64)) × Int) := (impl_copiesCode.f l0 l1).bind fun t145 => (if t145 = 0 then (impl_RepairsFor.l0 k l1 (([] : List (S64))) l0 (l0.length : Int) 0) else (some (([] : List (S64)), t145)))
theorem impl_RepairsFor.mono_l : ∀ k, (∀ y0 y1 y2 y3 y4, LeO (impl_RepairsFor.l0 k y0 y1 y2 y3 y4) (impl_RepairsFor.l0 (k + 1) y0 y1 y2 y3 y4))
  | 0 => fun _ _ _ _ _ r h => by simp [impl_RepairsFor.l0] at h
  | k + 1 => by
    have ih0 := impl_RepairsFor.mono_l k
    · intro y0 y1 y2 y3 y4
      unfold impl_RepairsFor.l0
      repeat' first
      | (with_reducible exact ih0 _ _ _ _ _)
      | (with_reducible exact LeO.refl _)
      | (with_reducible exact LeO.none _)
      | (with_reducible refine LeO.ite ?_ ?_)
      | (with_reducible refine LeO.bind ?_ (fun _ => ?_))
      | exact ih0 _ _ _ _ _
      | exact LeO.none _
      | refine LeO.ite ?_ ?_
      | refine LeO.bind ?_ (fun _ => ?_)
theorem impl_RepairsFor.mono : ∀ a0 a1 k, LeO (impl_RepairsFor.f k a0 a1) (impl_RepairsFor.f (k + 1) a0 a1) := by
  intro a0 a1 k
  have ih0 := impl_RepairsFor.mono_l k
  unfold impl_RepairsFor.f
  repeat' first
      | (with_reducible exact ih0 _ _ _ _ _)
      | (with_reducible exact LeO.refl _)
      | (with_reducible exact LeO.none _)
      | (with_reducible refine LeO.ite ?_ ?_)
      | (with_reducible refine LeO.bind ?_ (fun _ => ?_))
      | exact ih0 _ _ _ _ _
      | exact LeO.none _
      | refine LeO.ite ?_ ?_
      | refine LeO.bind ?_ (fun _ => ?_)
set_option maxHeartbeats 8000000 in
set_option maxRecDepth 100000 in
theorem impl_RepairsFor.calls (k : Nat) (A0 : Option Addr) (c0 : Nat) (l0 : List Int) (A1 : Option Addr) (c1 : Nat) (l1 : List (List Int)) (r1 : List (S64)) (r2 : Int) (w : World) (hr0 : Kd.C (Kd.int .i64) w A0 l0.length l0) (hc0 : l0.length ≤ c0) (hr1 : Kd.C (Kd.slice 2 (Kd.int .i64)) w A1 l1.length l1) (hc1 : l1.length ≤ c1) (h : impl_RepairsFor.f k l0 l1 = some (r1, r2)) :
    Calls Try.prog 43 #[.slice A0 l0.length c0, .slice A1 l1.length c1] w fun e w' => ∃ v0_ : Value, e = .returned (.tuple #[v0_, .int .i64 r2]) ∧ Kd.R k64 64 w' w.heap.size (fun _ => True) v0_ r1 ∧ Below w.heap.size w w' := by
  have hu64 := Try.underlying64
  have HR0 := Aside0.mk hr0
  have HC0 := Aside0.mk hc0
  clear hr0 hc0
  have HR1 := Aside0.mk hr1
  have HC1 := Aside0.mk hc1
  clear hr1 hc1
  have HB := Aside0.mk (Below.refl w.heap.size w)
  have H : ((impl_copiesCode.f l0 l1).bind fun t145 => (if t145 = 0 then (impl_RepairsFor.l0 k l1 (([] : List (S64))) l0 (l0.length : Int) 0) else (some (([] : List (S64)), t145)))) = some (r1, r2) := h
  clear h
  replace H := Option.bind_eq_some_iff.mp H
  obtain ⟨t145, A30, H⟩ := H
  replace H : (if t145 = 0 then (impl_RepairsFor.l0 k l1 (([] : List (S64))) l0 (l0.length : Int) 0) else (some (([] : List (S64)), t145))) = some (r1, r2) := H
  have A3 := Aside0.mk A30
  clear A30
  by_cases c4 : t145 = 0
  · rw [if_pos c4] at H
    have c4b0 : (t145 == 0) = true := beq_iff_eq.mpr c4
    have c4b1 : (t145 != 0) = false := bne_eq_false_iff_eq.mpr c4
    clear c4
    obtain ⟨y146, hy146⟩ : ∃ y_ : List (S64), y_ = (([] : List (S64))) := ⟨_, rfl⟩
    replace H : (impl_RepairsFor.l0 k l1 y146 l0 (l0.length : Int) 0) = some (r1, r2) := by first | (rw [hy146]; with_reducible exact H) | (have H2_ := (Option.bind_some _ _).symm.trans H; rw [hy146]; with_reducible exact H2_) | (have H2_ := (Option.bind_some _ _).symm.trans H; with_reducible exact H2_) | with_reducible exact H | (rw [hy146]; exact H) | exact H
    have Ny146 := Aside0.mk hy146
    clear hy146
    have H' := Aside0.mk H
    clear H
    go_enter Try.func43, Try.ntmps43
    go_wp2_with (first | ((with_reducible refine gate_callee (f := 76) rfl ?_); refine goesL_ (some 13) rfl rfl Try.func76 (by kernel_rfl) rfl #[.slice A0 l0.length c0, .slice A1 l1.length c1] rfl (by (try simp only [List.map_toArray, List.map_cons, List.map_nil]); first | done | rfl | (simp only [List.length_drop, List.length_take]; rfl)) ?_; (with_reducible refine (impl_copiesCode.calls _ _ l0 _ _ l1 t145 _ ?side1 ?side2 ?side3 ?side4 A3.out).mono ?_); (case side1 => repeat (first | exact HR0.out | (with_reducible refine Kd.C_alloc ?_ _) | (with_reducible refine Kd.C_drewN ?_ _) | (with_reducible refine Kd.C_drew ?_))); (case side2 => exact HC0.out); (case side3 => repeat (first | exact HR1.out | (with_reducible refine Kd.C_alloc ?_ _) | (with_reducible refine Kd.C_drewN ?_ _) | (with_reducible refine Kd.C_drew ?_))); (case side4 => exact HC1.out); rintro e w5 ⟨rfl, hb⟩; refine ⟨_, rfl, ?_⟩; have n0_ := Aside0.mk (below_step (by repeat (first | (with_reducible first | exact HB.out | apply below_alloc | apply pw_below_drewN | apply below_drew1) | exact HB.out)) hb); clear HB; have HB := n0_; clear n0_; (try clear hb); (try clear hb2); (try clear hk); (try clear hi)) | ((with_reducible refine gate_dst (N := 17) rfl ?_); refine Kd.R_lit k64 _ 64 ?hg (N := 17) ?hd (xs := ([] : List (S64))) (inner := []) (ok := fun _ => True) (okp := fun _ => True) ?hr ?hp (fun _ hk => hk) trivial (Below.refl _ _) (Nat.le_refl _) (by simp) ?_; (case hd => rfl); (case hg => rfl); (case hr => first | (go_simp; done) | (go_simp; rfl)); (case hp => exact (Reps.none _ _)); intro v147 w6 ho7 hb hg_ hnew_; clear hg_ hnew_; (first | rw [← Ny146.out] at ho7 | (simp only [Int.reduceToNat] at ho7; rw [← Ny146.out] at ho7)); have n0_ := Aside0.mk (Kd.R_lower ho7 (below_size (by repeat (first | (with_reducible first | exact HB.out | apply below_alloc | apply pw_below_drewN | apply below_drew1) | exact HB.out)))); have n1_ := Aside0.mk (below_step (by repeat (first | (with_reducible first | exact HB.out | apply below_alloc | apply pw_below_drewN | apply below_drew1) | exact HB.out)) hb); clear HB; have HO148 := n0_; have HB := n1_; clear n0_ n1_; clear hb ho7))
    go_loopg [7, 20] k (fun kq v7 v20 w' => ∃ (x7_1 : List (S64)) (x20_1 : Int), v20 = .int .i64 x20_1 ∧ Aside0 (impl_RepairsFor.l0 kq l1 x7_1 l0 (l0.length : Int) x20_1 = some (r1, r2)) ∧ Aside0 (kq ≤ k) ∧ Aside0 (Kd.R k64 64 w' w.heap.size (fun _ => True) v7 x7_1) ∧ Aside0 (Below w.heap.size w w'))
    case atStart => exact ⟨(y146), (0), (by first | rfl | (simp; done) | (simp [*]; done)), H', ⟨Nat.le_refl _⟩, ⟨by (with_reducible repeat (first | apply Kd.R_alloc | apply Kd.R_drewN | apply Kd.R_drew)); exact HO148.out⟩, ⟨by repeat (first | (with_reducible first | exact HB.out | apply below_alloc | apply pw_below_drewN | apply below_drew1) | exact HB.out)⟩⟩
    case round =>
      clear H'
      try clear c1
      try clear p2
      try clear c4
      try clear c4b0
      try clear c4b1
      try clear c7
      obtain ⟨x7_1, x20_1, rfl, HA, HK1, HO_7, HB⟩ := hrel
      cases gk with
      | zero => exact absurd HA.out (by simp [impl_RepairsFor.l0])
      | succ k1 =>
        have H := HA.out
        clear HA
        simp only [impl_RepairsFor.l0] at H
        by_cases c8 : x20_1 < (l0.length : Int)
        · rw [if_pos c8] at H
          have c8b0 : decide (x20_1 < (l0.length : Int)) = true := decide_eq_true c8
          clear c8
          by_cases c9 : 0 ≤ x20_1
          · rw [if_pos c9] at H
            have c9b0 : decide (0 ≤ x20_1) = true := decide_eq_true c9
            clear c9
            by_cases c10 : x20_1 < (l0.length : Int)
            · rw [if_pos c10] at H
              have c10b0 : decide (x20_1 < (l0.length : Int)) = true := decide_eq_true c10
              clear c10
              by_cases c11 : (rd l0 x20_1) = 1
              · rw [if_pos c11] at H
                have c11b0 : ((rd l0 x20_1) == 1) = true := beq_iff_eq.mpr c11
                have c11b1 : ((rd l0 x20_1) != 1) = false := bne_eq_false_iff_eq.mpr c11
                clear c11
                replace H := Option.bind_eq_some_iff.mp H
                obtain ⟨t150, A120, H⟩ := H
                replace H : (if t150 = true then (if x7_1.length < 5864062014805 then (impl_RepairsFor.l0 k1 l1 (x7_1 ++ [(⟨x20_1, 1, 2⟩ : S64)]) l0 (l0.length : Int) (wrap64 (x20_1 + 1))) else (none)) else (if x7_1.length < 5864062014805 then (impl_RepairsFor.l0 k1 l1 (x7_1 ++ [(⟨x20_1, 1, 3⟩ : S64)]) l0 (l0.length : Int) (wrap64 (x20_1 + 1))) else (none))) = some (r1, r2) := H
                have A12 := Aside0.mk A120
                clear A120
                by_cases c13 : t150 = true
                · subst c13
                  have H1 : (if x7_1.length < 5864062014805 then (impl_RepairsFor.l0 k1 l1 (x7_1 ++ [(⟨x20_1, 1, 2⟩ : S64)]) l0 (l0.length : Int) (wrap64 (x20_1 + 1))) else (none)) = some (r1, r2) := by rw [if_pos rfl] at H; exact H
                  clear H
                  have H := H1
                  clear H1
                  by_cases c14 : x7_1.length < 5864062014805
                  · rw [if_pos c14] at H
                    have LMc14 := Aside0.mk c14
                    clear c14
                    obtain ⟨y151, hy151⟩ : ∃ y_ : List (S64), y_ = (x7_1 ++ [(⟨x20_1, 1, 2⟩ : S64)]) := ⟨_, rfl⟩
                    replace H : (impl_RepairsFor.l0 k1 l1 y151 l0 (l0.length : Int) (wrap64 (x20_1 + 1))) = some (r1, r2) := by first | (rw [hy151]; with_reducible exact H) | (have H2_ := (Option.bind_some _ _).symm.trans H; rw [hy151]; with_reducible exact H2_) | (have H2_ := (Option.bind_some _ _).symm.trans H; with_reducible exact H2_) | with_reducible exact H | (rw [hy151]; exact H) | exact H
                    have Ny151 := Aside0.mk hy151
                    clear hy151
                    have H' := Aside0.mk H
                    clear H
                    have p149 : 0 ≤ (x20_1 : Int) := of_decide_eq_true (by first | (with_reducible assumption) | assumption)
                    have q149 : x20_1 < (l0.length : Int) := of_decide_eq_true (by first | (with_reducible assumption) | assumption)
                    obtain ⟨ad149, e149, hx149_0⟩ := Kd.at_int HR0.out x20_1 p149 q149
                    cases e149
                    replace hx149_0 := (HB.out.cell (World.block_lt_of_cell? w _ hx149_0)).trans hx149_0
                    replace p149 := eq_true p149
                    replace q149 := eq_true q149
                    go_wp2_with (first | ((with_reducible refine gate_callee (f := 77) rfl ?_); refine goesL_ (some 29) rfl rfl Try.func77 (by kernel_rfl) rfl #[.slice A1 l1.length c1, .int .i64 x20_1] rfl (by (try simp only [List.map_toArray, List.map_cons, List.map_nil]); first | done | rfl | (simp only [List.length_drop, List.length_take]; rfl)) ?_; (with_reducible refine (impl_isCopied.calls _ _ l1 x20_1 true _ ?side1 ?side2 A12.out).mono ?_); (case side1 => repeat (first | exact (Kd.C_below HR1.out HB.out) | (with_reducible refine Kd.C_alloc ?_ _) | (with_reducible refine Kd.C_drewN ?_ _) | (with_reducible refine Kd.C_drew ?_))); (case side2 => exact HC1.out); rintro e w15 ⟨rfl, hb⟩; refine ⟨_, rfl, ?_⟩; have n0_ := Aside0.mk (Kd.R_below (by (with_reducible repeat (first | apply Kd.R_alloc | apply Kd.R_drewN | apply Kd.R_drew)); exact HO_7.out) hb); have n1_ := Aside0.mk (below_step (by repeat (first | (with_reducible first | exact HB.out | apply below_alloc | apply pw_below_drewN | apply below_drew1) | exact HB.out)) hb); clear HO_7; clear HB; have HO_7 := n0_; have HB := n1_; clear n0_ n1_; (try clear hb); (try clear hb2); (try clear hk); (try clear hi)) | ((with_reducible refine gate_builtin (b := .append) (xs := #[.tmp 30, .tmp 34]) rfl ?_); at_builtin; refine Kd.R_append k64 (w0 := w) w.heap.size rfl (.tmp 30) (.tmp 34) 41 64 (.agg #[(.int .i64 0), (.int .i64 0), (.int .i64 0)]) 24 rfl Try.underlying41 info64 rfl (by decide) (by omega) u7 x7_1 (⟨x20_1, 1, 2⟩ : S64) [.int .i64 x20_1, .int .i64 1, .int .i64 2] (fun _ => True) (fun _ => False) rfl rfl ?aP (fun _ hk => hk.elim) ?aF ?aO ?aB ?aS ?aL ?_; (case aP => exact k64_mkM _ _ _ (⟨x20_1, 1, 2⟩ : S64)); (case aB => exact (by repeat (first | (with_reducible first | exact HB.out | apply below_alloc | apply pw_below_drewN | apply below_drew1) | exact HB.out))); (case aF => exact (fun _ _ => trivial)); (case aO => exact (by (with_reducible repeat (first | apply Kd.R_alloc | apply Kd.R_drewN | apply Kd.R_drew)); exact HO_7.out)); (case aS => exact (below_size (by repeat (first | (with_reducible first | exact HB.out | apply below_alloc | apply pw_below_drewN | apply below_drew1) | exact HB.out)))); (case aL => have := LMc14.out; omega); intro v152 w16 ho hb hg hat; rw [← Ny151.out] at ho; have n0_ := Aside0.mk (hb); have n1_ := Aside0.mk (ho); clear HB; clear HO_7; have HB := n0_; have HO153 := n1_; clear n0_ n1_; clear ho hb hg hat))
                    go_roundg k1
                    case measure => have := HK1.out; omega
                    case rel => exact ⟨(y151), (wrap64 (x20_1 + 1)), (by first | rfl | (simp; done) | (simp [*]; done)), H', ⟨by have := HK1.out; omega⟩, ⟨by (with_reducible repeat (first | apply Kd.R_alloc | apply Kd.R_drewN | apply Kd.R_drew)); exact HO153.out⟩, ⟨by repeat (first | (with_reducible first | exact HB.out | apply below_alloc | apply pw_below_drewN | apply below_drew1) | exact HB.out)⟩⟩
                  · rw [if_neg c14] at H
                    exact absurd H (by simp)
                · replace c13 := Bool.eq_false_iff.mpr c13
                  subst c13
                  have H1 : (if x7_1.length < 5864062014805 then (impl_RepairsFor.l0 k1 l1 (x7_1 ++ [(⟨x20_1, 1, 3⟩ : S64)]) l0 (l0.length : Int) (wrap64 (x20_1 + 1))) else (none)) = some (r1, r2) := by rw [if_neg (show ¬ (false = true) by decide)] at H; exact H
                  clear H
                  have H := H1
                  clear H1
                  by_cases c17 : x7_1.length < 5864062014805
                  · rw [if_pos c17] at H
                    have LMc17 := Aside0.mk c17
                    clear c17
                    obtain ⟨y154, hy154⟩ : ∃ y_ : List (S64), y_ = (x7_1 ++ [(⟨x20_1, 1, 3⟩ : S64)]) := ⟨_, rfl⟩
                    replace H : (impl_RepairsFor.l0 k1 l1 y154 l0 (l0.length : Int) (wrap64 (x20_1 + 1))) = some (r1, r2) := by first | (rw [hy154]; with_reducible exact H) | (have H2_ := (Option.bind_some _ _).symm.trans H; rw [hy154]; with_reducible exact H2_) | (have H2_ := (Option.bind_some _ _).symm.trans H; with_reducible exact H2_) | with_reducible exact H | (rw [hy154]; exact H) | exact H
                    have Ny154 := Aside0.mk hy154
                    clear hy154
                    have H' := Aside0.mk H
                    clear H
                    have p149 : 0 ≤ (x20_1 : Int) := of_decide_eq_true (by first | (with_reducible assumption) | assumption)
                    have q149 : x20_1 < (l0.length : Int) := of_decide_eq_true (by first | (with_reducible assumption) | assumption)
                    obtain ⟨ad149, e149, hx149_0⟩ := Kd.at_int HR0.out x20_1 p149 q149
                    cases e149
                    replace hx149_0 := (HB.out.cell (World.block_lt_of_cell? w _ hx149_0)).trans hx149_0
                    replace p149 := eq_true p149
                    replace q149 := eq_true q149
                    go_wp2_with (first | ((with_reducible refine gate_callee (f := 77) rfl ?_); refine goesL_ (some 29) rfl rfl Try.func77 (by kernel_rfl) rfl #[.slice A1 l1.length c1, .int .i64 x20_1] rfl (by (try simp only [List.map_toArray, List.map_cons, List.map_nil]); first | done | rfl | (simp only [List.length_drop, List.length_take]; rfl)) ?_; (with_reducible refine (impl_isCopied.calls _ _ l1 x20_1 false _ ?side1 ?side2 A12.out).mono ?_); (case side1 => repeat (first | exact (Kd.C_below HR1.out HB.out) | (with_reducible refine Kd.C_alloc ?_ _) | (with_reducible refine Kd.C_drewN ?_ _) | (with_reducible refine Kd.C_drew ?_))); (case side2 => exact HC1.out); rintro e w18 ⟨rfl, hb⟩; refine ⟨_, rfl, ?_⟩; have n0_ := Aside0.mk (Kd.R_below (by (with_reducible repeat (first | apply Kd.R_alloc | apply Kd.R_drewN | apply Kd.R_drew)); exact HO_7.out) hb); have n1_ := Aside0.mk (below_step (by repeat (first | (with_reducible first | exact HB.out | apply below_alloc | apply pw_below_drewN | apply below_drew1) | exact HB.out)) hb); clear HO_7; clear HB; have HO_7 := n0_; have HB := n1_; clear n0_ n1_; (try clear hb); (try clear hb2); (try clear hk); (try clear hi)) | ((with_reducible refine gate_builtin (b := .append) (xs := #[.tmp 30, .tmp 34]) rfl ?_); at_builtin; refine Kd.R_append k64 (w0 := w) w.heap.size rfl (.tmp 30) (.tmp 34) 41 64 (.agg #[(.int .i64 0), (.int .i64 0), (.int .i64 0)]) 24 rfl Try.underlying41 info64 rfl (by decide) (by omega) u7 x7_1 (⟨x20_1, 1, 3⟩ : S64) [.int .i64 x20_1, .int .i64 1, .int .i64 3] (fun _ => True) (fun _ => False) rfl rfl ?aP (fun _ hk => hk.elim) ?aF ?aO ?aB ?aS ?aL ?_; (case aP => exact k64_mkM _ _ _ (⟨x20_1, 1, 3⟩ : S64)); (case aB => exact (by repeat (first | (with_reducible first | exact HB.out | apply below_alloc | apply pw_below_drewN | apply below_drew1) | exact HB.out))); (case aF => exact (fun _ _ => trivial)); (case aO => exact (by (with_reducible repeat (first | apply Kd.R_alloc | apply Kd.R_drewN | apply Kd.R_drew)); exact HO_7.out)); (case aS => exact (below_size (by repeat (first | (with_reducible first | exact HB.out | apply below_alloc | apply pw_below_drewN | apply below_drew1) | exact HB.out)))); (case aL => have := LMc17.out; omega); intro v155 w19 ho hb hg hat; rw [← Ny154.out] at ho; have n0_ := Aside0.mk (hb); have n1_ := Aside0.mk (ho); clear HB; clear HO_7; have HB := n0_; have HO156 := n1_; clear n0_ n1_; clear ho hb hg hat))
                    go_roundg k1
                    case measure => have := HK1.out; omega
                    case rel => exact ⟨(y154), (wrap64 (x20_1 + 1)), (by first | rfl | (simp; done) | (simp [*]; done)), H', ⟨by have := HK1.out; omega⟩, ⟨by (with_reducible repeat (first | apply Kd.R_alloc | apply Kd.R_drewN | apply Kd.R_drew)); exact HO156.out⟩, ⟨by repeat (first | (with_reducible first | exact HB.out | apply below_alloc | apply pw_below_drewN | apply below_drew1) | exact HB.out)⟩⟩
                  · rw [if_neg c17] at H
                    exact absurd H (by simp)
              · rw [if_neg c11] at H
                have c11b0 : ((rd l0 x20_1) == 1) = false := beq_eq_false_iff_ne.mpr c11
                have c11b1 : ((rd l0 x20_1) != 1) = true := bne_iff_ne.mpr c11
                have H' := Aside0.mk H
                clear H
                have p149 : 0 ≤ (x20_1 : Int) := of_decide_eq_true (by first | (with_reducible assumption) | assumption)
                have q149 : x20_1 < (l0.length : Int) := of_decide_eq_true (by first | (with_reducible assumption) | assumption)
                obtain ⟨ad149, e149, hx149_0⟩ := Kd.at_int HR0.out x20_1 p149 q149
                cases e149
                replace hx149_0 := (HB.out.cell (World.block_lt_of_cell? w _ hx149_0)).trans hx149_0
                replace p149 := eq_true p149
                replace q149 := eq_true q149
                go_wp2
                go_roundg k1
                case measure => have := HK1.out; omega
                case rel => exact ⟨(x7_1), (wrap64 (x20_1 + 1)), (by first | rfl | (simp; done) | (simp [*]; done)), H', ⟨by have := HK1.out; omega⟩, ⟨by (with_reducible repeat (first | apply Kd.R_alloc | apply Kd.R_drewN | apply Kd.R_drew)); exact HO_7.out⟩, ⟨by repeat (first | (with_reducible first | exact HB.out | apply below_alloc | apply pw_below_drewN | apply below_drew1) | exact HB.out)⟩⟩
            · rw [if_neg c10] at H
              exact absurd H (by simp)
          · rw [if_neg c9] at H
            exact absurd H (by simp)
        · rw [if_neg c8] at H
          have c8b0 : decide (x20_1 < (l0.length : Int)) = false := decide_eq_false c8
          clear c8
          simp only [Option.some.injEq, Prod.mk.injEq] at H
          obtain ⟨rfl, rfl⟩ := H
          go_wp2
          go_ret2
          exact ⟨_, by first | rfl | (simp [errW_none, errW_some] <;> rfl) | (simp [*, errW_none, errW_some] <;> rfl), by (with_reducible repeat (first | apply Kd.R_alloc | apply Kd.R_drewN | apply Kd.R_drew)); exact HO_7.out, by repeat (first | (with_reducible first | exact HB.out | apply below_alloc | apply pw_below_drewN | apply below_drew1) | exact HB.out)⟩
  · rw [if_neg c4] at H
    have c4b0 : (t145 == 0) = false := beq_eq_false_iff_ne.mpr c4
    have c4b1 : (t145 != 0) = true := bne_iff_ne.mpr c4
    simp only [Option.some.injEq, Prod.mk.injEq] at H
    obtain ⟨rfl, rfl⟩ := H
    go_enter Try.func43, Try.ntmps43
    go_wp2_with (first | ((with_reducible refine gate_callee (f := 76) rfl ?_); refine goesL_ (some 13) rfl rfl Try.func76 (by kernel_rfl) rfl #[.slice A0 l0.length c0, .slice A1 l1.length c1] rfl (by (try simp only [List.map_toArray, List.map_cons, List.map_nil]); first | done | rfl | (simp only [List.length_drop, List.length_take]; rfl)) ?_; (with_reducible refine (impl_copiesCode.calls _ _ l0 _ _ l1 t145 _ ?side1 ?side2 ?side3 ?side4 A3.out).mono ?_); (case side1 => repeat (first | exact HR0.out | (with_reducible refine Kd.C_alloc ?_ _) | (with_reducible refine Kd.C_drewN ?_ _) | (with_reducible refine Kd.C_drew ?_))); (case side2 => exact HC0.out); (case side3 => repeat (first | exact HR1.out | (with_reducible refine Kd.C_alloc ?_ _) | (with_reducible refine Kd.C_drewN ?_ _) | (with_reducible refine Kd.C_drew ?_))); (case side4 => exact HC1.out); rintro e w20 ⟨rfl, hb⟩; refine ⟨_, rfl, ?_⟩; have n0_ := Aside0.mk (below_step (by repeat (first | (with_reducible first | exact HB.out | apply below_alloc | apply pw_below_drewN | apply below_drew1) | exact HB.out)) hb); clear HB; have HB := n0_; clear n0_; (try clear hb); (try clear hb2); (try clear hk); (try clear hi)))
    go_ret2
    exact ⟨_, by first | rfl | (simp [errW_none, errW_some] <;> rfl) | (simp [*, errW_none, errW_some] <;> rfl), by first | exact Kd.R_nil _ _ _ _ _ | exact Kd.N_nil _ _ _ _ _ | exact Kd.V_nil _ _ _ _ _ | exact Kd.Q_nil _ _ _ _ _ | exact Kd.S_nil _ _ _ _ _, by repeat (first | (with_reducible first | exact HB.out | apply below_alloc | apply pw_below_drewN | apply below_drew1) | exact HB.out)⟩

/-! ### laws_eqInt64SS: function 44 -/
def laws_eqInt64SS.l0 : Nat → List (List Int) → List (List Int) → Int → Option (Bool)
  | 0, _, _, _ => none
  | k + 1, x0, x1, x5 => if x5 < (x0.length : Int) then (if 0 ≤ x5 then (if x5 < (x1.length : Int) then ((laws_eqInt64S.f k (rd_L2 x0 x5) (rd_L2 x1 x5)).bind fun t159 => (if t159 = true then (laws_eqInt64SS.l0 k x0 x1 (wrap64 (x5 + 1))) else (some false))) else (none)) else (none)) else (some true)
def laws_eqInt64SS.f (k : Nat) (l0 : List (List Int)) (l1 : List (List Int)) : Option (Bool) := if (l0.length : Int) = (l1.length : Int) then (laws_eqInt64SS.l0 k l0 l1 0) else (some false)
theorem laws_eqInt64SS.mono_l : ∀ k, (∀ y0 y1 y2, LeO (laws_eqInt64SS.l0 k y0 y1 y2) (laws_eqInt64SS.l0 (k + 1) y0 y1 y2))
  | 0 => fun _ _ _ r h => by simp [laws_eqInt64SS.l0] at h
  | k + 1 => by
    have ih0 := laws_eqInt64SS.mono_l k
    · intro y0 y1 y2
      unfold laws_eqInt64SS.l0
      repeat' first
      | (with_reducible exact ih0 _ _ _)
      | (with_reducible exact laws_eqInt64S.mono _ _ _)
      | (with_reducible exact LeO.refl _)
      | (with_reducible exact LeO.none _)
      | (with_reducible refine LeO.ite ?_ ?_)
      | (with_reducible refine LeO.bind ?_ (fun _ => ?_))
      | exact ih0 _ _ _
      | exact laws_eqInt64S.mono _ _ _
      | exact LeO.none _
      | refine LeO.ite ?_ ?_
      | refine LeO.bind ?_ (fun _ => ?_)
theorem laws_eqInt64SS.mono : ∀ a0 a1 k, LeO (laws_eqInt64SS.f k a0 a1) (laws_eqInt64SS.f (k + 1) a0 a1) := by
  intro a0 a1 k
  have ih0 := laws_eqInt64SS.mono_l k
  unfold laws_eqInt64SS.f
  repeat' first
      | (with_reducible exact ih0 _ _ _)
      | (with_reducible exact laws_eqInt64S.mono _ _ _)
      | (with_reducible exact LeO.refl _)
      | (with_reducible exact LeO.none _)
      | (with_reducible refine LeO.ite ?_ ?_)
      | (with_reducible refine LeO.bind ?_ (fun _ => ?_))
      | exact ih0 _ _ _
      | exact laws_eqInt64S.mono _ _ _
      | exact LeO.none _
      | refine LeO.ite ?_ ?_
      | refine LeO.bind ?_ (fun _ => ?_)
set_option maxHeartbeats 8000000 in
set_option maxRecDepth 100000 in
theorem laws_eqInt64SS.calls (k : Nat) (A0 : Option Addr) (c0 : Nat) (l0 : List (List Int)) (A1 : Option Addr) (c1 : Nat) (l1 : List (List Int)) (r : Bool) (w : World) (hr0 : Kd.C (Kd.slice 2 (Kd.int .i64)) w A0 l0.length l0) (hc0 : l0.length ≤ c0) (hr1 : Kd.C (Kd.slice 2 (Kd.int .i64)) w A1 l1.length l1) (hc1 : l1.length ≤ c1) (h : laws_eqInt64SS.f k l0 l1 = some r) :
    Calls Try.prog 44 #[.slice A0 l0.length c0, .slice A1 l1.length c1] w fun e w' => e = .returned (.bool r) ∧ Drawn0 w w' := by
  have HR0 := Aside0.mk hr0
  have HC0 := Aside0.mk hc0
  clear hr0 hc0
  have HR1 := Aside0.mk hr1
  have HC1 := Aside0.mk hc1
  clear hr1 hc1
  have H : (if (l0.length : Int) = (l1.length : Int) then (laws_eqInt64SS.l0 k l0 l1 0) else (some false)) = some r := h
  clear h
  by_cases c3 : (l0.length : Int) = (l1.length : Int)
  · rw [if_pos c3] at H
    have c3b0 : ((l0.length : Int) == (l1.length : Int)) = true := beq_iff_eq.mpr c3
    have c3b1 : ((l0.length : Int) != (l1.length : Int)) = false := bne_eq_false_iff_eq.mpr c3
    have c3b2 : (l0.length == l1.length) = true := by first | simpa using c3 | (simp at c3 ⊢; omega)
    clear c3
    have H' := Aside0.mk H
    clear H
    go_enter Try.func44, Try.ntmps44
    go_wp2
    repeat (go_quiet (fail); try go_wp2)
    go_loopg [5] k (fun kq v5 w' => ∃ (x5_1 : Int), v5 = .int .i64 x5_1 ∧ Aside0 (laws_eqInt64SS.l0 kq l0 l1 x5_1 = some r) ∧ Aside0 (kq ≤ k) ∧ Drawn0 w w')
    case atStart => exact ⟨(0), (by first | rfl | (simp; done) | (simp [*]; done)), H', ⟨Nat.le_refl _⟩, by repeat (first | exact Drawn0.refl _ | apply Drawn0.step)⟩
    case round =>
      clear H'
      try clear c1
      try clear p2
      try clear c3
      try clear c3b0
      try clear c3b1
      try clear c3b2
      obtain ⟨x5_1, rfl, HA, HK1, ⟨m1, rfl⟩⟩ := hrel
      cases gk with
      | zero => exact absurd HA.out (by simp [laws_eqInt64SS.l0])
      | succ k1 =>
        have H := HA.out
        clear HA
        simp only [laws_eqInt64SS.l0] at H
        by_cases c4 : x5_1 < (l0.length : Int)
        · rw [if_pos c4] at H
          have c4b0 : decide (x5_1 < (l0.length : Int)) = true := decide_eq_true c4
          clear c4
          by_cases c5 : 0 ≤ x5_1
          · rw [if_pos c5] at H
            have c5b0 : decide (0 ≤ x5_1) = true := decide_eq_true c5
            clear c5
            by_cases c6 : x5_1 < (l1.length : Int)
            · rw [if_pos c6] at H
              have c6b0 : decide (x5_1 < (l1.length : Int)) = true := decide_eq_true c6
              clear c6
              replace H := Option.bind_eq_some_iff.mp H
              obtain ⟨t159, A70, H⟩ := H
              replace H : (if t159 = true then (laws_eqInt64SS.l0 k1 l0 l1 (wrap64 (x5_1 + 1))) else (some false)) = some r := H
              have A7 := Aside0.mk A70
              clear A70
              by_cases c8 : t159 = true
              · subst c8
                have H1 : (laws_eqInt64SS.l0 k1 l0 l1 (wrap64 (x5_1 + 1))) = some r := by rw [if_pos rfl] at H; exact H
                clear H
                have H := H1
                clear H1
                have H' := Aside0.mk H
                clear H
                have p157 : 0 ≤ (x5_1 : Int) := of_decide_eq_true (by first | (with_reducible assumption) | assumption)
                have q157 : x5_1 < (l0.length : Int) := of_decide_eq_true (by first | (with_reducible assumption) | assumption)
                obtain ⟨ad157, A157_0, c157_0, e157, hx157_0, hl157_0, hi157_0⟩ := at_L2 HR0.out x5_1 p157 q157
                cases e157
                have HR157_0 := Aside0.mk hi157_0
                have HC157_0 := Aside0.mk hl157_0
                clear hi157_0 hl157_0
                replace p157 := eq_true p157
                replace q157 := eq_true q157
                have p158 : 0 ≤ (x5_1 : Int) := of_decide_eq_true (by first | (with_reducible assumption) | assumption)
                have q158 : x5_1 < (l1.length : Int) := of_decide_eq_true (by first | (with_reducible assumption) | assumption)
                obtain ⟨ad158, A158_0, c158_0, e158, hx158_0, hl158_0, hi158_0⟩ := at_L2 HR1.out x5_1 p158 q158
                cases e158
                have HR158_0 := Aside0.mk hi158_0
                have HC158_0 := Aside0.mk hl158_0
                clear hi158_0 hl158_0
                replace p158 := eq_true p158
                replace q158 := eq_true q158
                go_wp2_with (first | (go_at_call 18; (with_reducible refine (laws_eqInt64S.calls k1 _ _ (rd_L2 l0 x5_1) _ _ (rd_L2 l1 x5_1) true _ ?side1 ?side2 ?side3 ?side4 A7.out).mono ?_); (case side1 => repeat (first | exact HR157_0.out | (with_reducible refine Kd.C_alloc ?_ _) | (with_reducible refine Kd.C_drewN ?_ _) | (with_reducible refine Kd.C_drew ?_))); (case side2 => exact HC157_0.out); (case side3 => repeat (first | exact HR158_0.out | (with_reducible refine Kd.C_alloc ?_ _) | (with_reducible refine Kd.C_drewN ?_ _) | (with_reducible refine Kd.C_drew ?_))); (case side4 => exact HC158_0.out); rintro e w' ⟨rfl, ⟨nd, rfl⟩⟩; (try first | exact ⟨rfl, _, World.drewN_drewN _ _ _⟩ | exact ⟨rfl, _, Eq.trans (World.drewN_drewN _ _ _) (congrArg (World.drewN _) (Nat.add_assoc _ _ _))⟩)))
                repeat (go_quiet (first | (go_at_call 18; (with_reducible refine (laws_eqInt64S.calls k1 _ _ (rd_L2 l0 x5_1) _ _ (rd_L2 l1 x5_1) true _ ?side1 ?side2 ?side3 ?side4 A7.out).mono ?_); (case side1 => repeat (first | exact HR157_0.out | (with_reducible refine Kd.C_alloc ?_ _) | (with_reducible refine Kd.C_drewN ?_ _) | (with_reducible refine Kd.C_drew ?_))); (case side2 => exact HC157_0.out); (case side3 => repeat (first | exact HR158_0.out | (with_reducible refine Kd.C_alloc ?_ _) | (with_reducible refine Kd.C_drewN ?_ _) | (with_reducible refine Kd.C_drew ?_))); (case side4 => exact HC158_0.out); rintro e w' ⟨rfl, ⟨nd, rfl⟩⟩; (try first | exact ⟨rfl, _, World.drewN_drewN _ _ _⟩ | exact ⟨rfl, _, Eq.trans (World.drewN_drewN _ _ _) (congrArg (World.drewN _) (Nat.add_assoc _ _ _))⟩))); try go_wp2_with (first | (go_at_call 18; (with_reducible refine (laws_eqInt64S.calls k1 _ _ (rd_L2 l0 x5_1) _ _ (rd_L2 l1 x5_1) true _ ?side1 ?side2 ?side3 ?side4 A7.out).mono ?_); (case side1 => repeat (first | exact HR157_0.out | (with_reducible refine Kd.C_alloc ?_ _) | (with_reducible refine Kd.C_drewN ?_ _) | (with_reducible refine Kd.C_drew ?_))); (case side2 => exact HC157_0.out); (case side3 => repeat (first | exact HR158_0.out | (with_reducible refine Kd.C_alloc ?_ _) | (with_reducible refine Kd.C_drewN ?_ _) | (with_reducible refine Kd.C_drew ?_))); (case side4 => exact HC158_0.out); rintro e w' ⟨rfl, ⟨nd, rfl⟩⟩; (try first | exact ⟨rfl, _, World.drewN_drewN _ _ _⟩ | exact ⟨rfl, _, Eq.trans (World.drewN_drewN _ _ _) (congrArg (World.drewN _) (Nat.add_assoc _ _ _))⟩))))
                go_roundg k1
                case measure => have := HK1.out; omega
                case rel => exact ⟨(wrap64 (x5_1 + 1)), (by first | rfl | (simp; done) | (simp [*]; done)), H', ⟨by have := HK1.out; omega⟩, by repeat (first | exact Drawn0.refl _ | apply Drawn0.step)⟩
              · replace c8 := Bool.eq_false_iff.mpr c8
                subst c8
                have H1 : (some false) = some r := by rw [if_neg (show ¬ (false = true) by decide)] at H; exact H
                clear H
                have H := H1
                clear H1
                obtain rfl := Option.some.inj H
                have p157 : 0 ≤ (x5_1 : Int) := of_decide_eq_true (by first | (with_reducible assumption) | assumption)
                have q157 : x5_1 < (l0.length : Int) := of_decide_eq_true (by first | (with_reducible assumption) | assumption)
                obtain ⟨ad157, A157_0, c157_0, e157, hx157_0, hl157_0, hi157_0⟩ := at_L2 HR0.out x5_1 p157 q157
                cases e157
                have HR157_0 := Aside0.mk hi157_0
                have HC157_0 := Aside0.mk hl157_0
                clear hi157_0 hl157_0
                replace p157 := eq_true p157
                replace q157 := eq_true q157
                have p158 : 0 ≤ (x5_1 : Int) := of_decide_eq_true (by first | (with_reducible assumption) | assumption)
                have q158 : x5_1 < (l1.length : Int) := of_decide_eq_true (by first | (with_reducible assumption) | assumption)
                obtain ⟨ad158, A158_0, c158_0, e158, hx158_0, hl158_0, hi158_0⟩ := at_L2 HR1.out x5_1 p158 q158
                cases e158
                have HR158_0 := Aside0.mk hi158_0
                have HC158_0 := Aside0.mk hl158_0
                clear hi158_0 hl158_0
                replace p158 := eq_true p158
                replace q158 := eq_true q158
                go_wp2_with (first | (go_at_call 18; (with_reducible refine (laws_eqInt64S.calls k1 _ _ (rd_L2 l0 x5_1) _ _ (rd_L2 l1 x5_1) false _ ?side1 ?side2 ?side3 ?side4 A7.out).mono ?_); (case side1 => repeat (first | exact HR157_0.out | (with_reducible refine Kd.C_alloc ?_ _) | (with_reducible refine Kd.C_drewN ?_ _) | (with_reducible refine Kd.C_drew ?_))); (case side2 => exact HC157_0.out); (case side3 => repeat (first | exact HR158_0.out | (with_reducible refine Kd.C_alloc ?_ _) | (with_reducible refine Kd.C_drewN ?_ _) | (with_reducible refine Kd.C_drew ?_))); (case side4 => exact HC158_0.out); rintro e w' ⟨rfl, ⟨nd, rfl⟩⟩; (try first | exact ⟨rfl, _, World.drewN_drewN _ _ _⟩ | exact ⟨rfl, _, Eq.trans (World.drewN_drewN _ _ _) (congrArg (World.drewN _) (Nat.add_assoc _ _ _))⟩)))
                repeat (go_quiet (first | (go_at_call 18; (with_reducible refine (laws_eqInt64S.calls k1 _ _ (rd_L2 l0 x5_1) _ _ (rd_L2 l1 x5_1) false _ ?side1 ?side2 ?side3 ?side4 A7.out).mono ?_); (case side1 => repeat (first | exact HR157_0.out | (with_reducible refine Kd.C_alloc ?_ _) | (with_reducible refine Kd.C_drewN ?_ _) | (with_reducible refine Kd.C_drew ?_))); (case side2 => exact HC157_0.out); (case side3 => repeat (first | exact HR158_0.out | (with_reducible refine Kd.C_alloc ?_ _) | (with_reducible refine Kd.C_drewN ?_ _) | (with_reducible refine Kd.C_drew ?_))); (case side4 => exact HC158_0.out); rintro e w' ⟨rfl, ⟨nd, rfl⟩⟩; (try first | exact ⟨rfl, _, World.drewN_drewN _ _ _⟩ | exact ⟨rfl, _, Eq.trans (World.drewN_drewN _ _ _) (congrArg (World.drewN _) (Nat.add_assoc _ _ _))⟩))); try go_wp2_with (first | (go_at_call 18; (with_reducible refine (laws_eqInt64S.calls k1 _ _ (rd_L2 l0 x5_1) _ _ (rd_L2 l1 x5_1) false _ ?side1 ?side2 ?side3 ?side4 A7.out).mono ?_); (case side1 => repeat (first | exact HR157_0.out | (with_reducible refine Kd.C_alloc ?_ _) | (with_reducible refine Kd.C_drewN ?_ _) | (with_reducible refine Kd.C_drew ?_))); (case side2 => exact HC157_0.out); (case side3 => repeat (first | exact HR158_0.out | (with_reducible refine Kd.C_alloc ?_ _) | (with_reducible refine Kd.C_drewN ?_ _) | (with_reducible refine Kd.C_drew ?_))); (case side4 => exact HC158_0.out); rintro e w' ⟨rfl, ⟨nd, rfl⟩⟩; (try first | exact ⟨rfl, _, World.drewN_drewN _ _ _⟩ | exact ⟨rfl, _, Eq.trans (World.drewN_drewN _ _ _) (congrArg (World.drewN _) (Nat.add_assoc _ _ _))⟩))))
                go_ret
                exact ⟨by first | rfl | (simp; done) | (simp [*]; done), by repeat (first | exact Drawn0.refl _ | apply Drawn0.step)⟩
            · rw [if_neg c6] at H
              exact absurd H (by simp)
          · rw [if_neg c5] at H
            exact absurd H (by simp)
        · rw [if_neg c4] at H
          have c4b0 : decide (x5_1 < (l0.length : Int)) = false := decide_eq_false c4
          clear c4
          obtain rfl := Option.some.inj H
          go_wp2
          repeat (go_quiet (fail); try go_wp2)
          go_ret
          exact ⟨by first | rfl | (simp; done) | (simp [*]; done), by repeat (first | exact Drawn0.refl _ | apply Drawn0.step)⟩
  · rw [if_neg c3] at H
    have c3b0 : ((l0.length : Int) == (l1.length : Int)) = false := beq_eq_false_iff_ne.mpr c3
    have c3b1 : ((l0.length : Int) != (l1.length : Int)) = true := bne_iff_ne.mpr c3
    have c3b2 : (l0.length == l1.length) = false := by first | simpa using c3 | (simp at c3 ⊢; omega)
    obtain rfl := Option.some.inj H
    go_enter Try.func44, Try.ntmps44
    go_wp2
    repeat (go_quiet (fail); try go_wp2)
    go_ret
    exact ⟨by first | rfl | (simp; done) | (simp [*]; done), by repeat (first | exact Drawn0.refl _ | apply Drawn0.step)⟩

/-! ### laws_markInt64SS: function 45 -/
/-- The number behind marking these rows. -/
def mkss (k : Nat) : List (List Int) → Int → Option Int
  | [], x => some x
  | r :: rs, x => (laws_markInt64S.f k r x).bind fun t => mkss k rs t.1
def laws_markInt64SS.f (k : Nat) (l0 : List (List Int)) (a1 : Int) : Option (Int) := if l0.length ≤ 1048576 then mkss k l0 a1 else none
theorem mkss_mono : ∀ (l : List (List Int)) (x : Int) (k : Nat), LeO (mkss k l x) (mkss (k + 1) l x)
  | [], _, _ => LeO.refl _
  | r :: rs, x, k => LeO.bind (laws_markInt64S.mono _ _ _) (fun t => mkss_mono rs t.1 k)
theorem laws_markInt64SS.mono : ∀ a0 a1 k, LeO (laws_markInt64SS.f k a0 a1) (laws_markInt64SS.f (k + 1) a0 a1) := by
  intro a0 a1 k
  unfold laws_markInt64SS.f
  exact LeO.ite (mkss_mono _ _ _) (LeO.refl _)
set_option maxHeartbeats 8000000 in
set_option maxRecDepth 100000 in
theorem laws_markInt64SS.calls_ (k : Nat) (P0_ : Nat → Prop) (u : Value) (l0 : List (List Int)) (a1 : Int) (r : Int) (w0 w : World) (hB : Below w0.heap.size w0 w) (ho0 : Kd.S (Kd.slice 2 (Kd.int .i64)) 22 w w0.heap.size P0_ u l0) (h : laws_markInt64SS.f k l0 a1 = some r) :
    Calls Try.prog 45 #[u, .int .i64 a1] w fun e w' => e = .returned (.int .i64 r) ∧ Below w0.heap.size w0 w' ∧ Kept w w' P0_ := by
  unfold laws_markInt64SS.f at h
  by_cases hl : l0.length ≤ 1048576
  case neg => rw [if_neg hl] at h; exact absurd h (by simp)
  rw [if_pos hl] at h
  obtain ⟨A, c, rfl⟩ := Kd.S_slice ho0
  have HB := Aside0.mk hB
  have HK := Aside0.mk (Kept.refl w P0_)
  have HO := Aside0.mk (Kd.S_mono ho0 (fun k_ hk => (show P0_ k_ ∨ w.heap.size ≤ k_ from .inl hk)))
  have HM := Aside0.mk h
  have HW := Aside0.mk hB.size
  generalize hn : l0.length = n at hl
  have HN := Aside0.mk hn
  clear ho0 hB h
  (try rw [show l0.length = n from hn])
  clear hn
  go_enter Try.func45, Try.ntmps45
  go_wp2
  go_loopg [1, 5] n (fun gg s1 s5 wr => ∃ (ii : Nat) (x : Int) (ys : List (List Int)), ii ≤ n ∧ n - ii ≤ gg ∧ s1 = .int .i64 x ∧ s5 = .int .i64 ii ∧ Aside0 (mkss k (ys.drop ii) x = some r ∧ ys.length = n) ∧ Aside0 (Kd.S (Kd.slice 2 (Kd.int .i64)) 22 wr w0.heap.size (fun k_ => P0_ k_ ∨ w.heap.size ≤ k_) (.slice A n c) ys) ∧ Aside0 (Kept w wr P0_) ∧ Aside0 (Below w0.heap.size w0 wr))
  case atStart => exact ⟨0, a1, l0, Nat.zero_le _, by omega, rfl, rfl, ⟨HM.out, HN.out⟩, ⟨by have q := HO.out; rw [HN.out] at q; exact q⟩, HK, HB⟩
  case round =>
    clear HO HK HB HM
    obtain ⟨ii, x, ys, hii, hg, rfl, rfl, HM, HO, HK, HB⟩ := hrel
    by_cases hlt : ii < n
    · have hltz : (ii : Int) < (n : Int) := by omega
      have hi0 : (0 : Int) ≤ (ii : Int) := by omega
      have hyl := HM.out.2
      obtain ⟨g, cap, e8, _, _, _⟩ := Kd.S_form HO.out (by omega)
      injection e8 with e1 e2 e3
      subst e1
      subst e3
      clear e2
      obtain ⟨oki, cc, hcl, hM, hcc, hoki, hH⟩ := Kd.S_lend HO.out ([] : List Int) (ii : Int) (by omega) (by omega)
      obtain ⟨v, rfl, hR⟩ := hM
      rw [Int.toNat_natCast] at hR
      have hci := hcc 0 v rfl
      rw [Int.toNat_natCast] at hci
      have hci : wr.cell? ⟨g, ii, none⟩ = some v := by
        have e : (⟨g, ii * (Kd.slice 2 (Kd.int .i64)).sz + 0, none⟩ : Addr) = ⟨g, ii, none⟩ := by show (⟨g, ii * 1 + 0, none⟩ : Addr) = _; rw [Nat.mul_one, Nat.add_zero]
        rw [e] at hci; exact hci
      have hm := HM.out.1
      have hdr : ys.drop ii = ys.getD ii [] :: ys.drop (ii + 1) := by rw [List.drop_eq_getElem_cons (by omega), List.getD_eq_getElem?_getD, List.getElem?_eq_getElem (by omega)]; rfl
      rw [hdr, mkss] at hm
      clear hdr
      obtain ⟨⟨t1, t2⟩, ht, hm⟩ := Option.bind_eq_some_iff.mp hm
      generalize ys.getD ii [] = row at hR ht
      obtain ⟨A2, c2, rfl⟩ := Kd.R_slice hR
      have HT := Aside0.mk ht
      have HR := Aside0.mk hR
      have HH := Aside0.mk (Kd.H_widen hH)
      have HM2 := Aside0.mk hm
      have HOK := Aside0.mk hoki
      have hsz := HK.out.1
      have HSZ := Aside0.mk hsz
      clear hcc hH hR hm ht hsz hcl hyl
      go_wp2_with (go_at_call 23; refine (laws_markInt64S.calls k oki _ row x t1 t2 w0 wr HB.out HR.out HT.out).mono ?_; rintro e w' ⟨rfl, hy, hb, hk⟩; have n0_ := Aside0.mk hb; have n1_ := Aside0.mk (HK.out.then_ hk (fun k_ h_ => ((HOK.out k_ h_).1 : P0_ k_ ∨ w.heap.size ≤ k_))); have n2_ := Aside0.mk (Kd.H_back (Kd.H_step HH.out (fun k_ h1 h2 h3 => hk.2 k_ h3 (fun h4 => h2 (.inl h4)))) (x' := t2) (okp := fun k_ => oki k_ ∨ wr.heap.size ≤ k_) ⟨_, rfl, hy⟩ (fun k_ h_ => h_.elim .inl (fun h2 => .inr ⟨.inr (Nat.le_trans HSZ.out h2), h2⟩))); clear HB HK HO HR HH hy hb hk; have HB := n0_; have HK := n1_; have HO := n2_; clear n0_ n1_ n2_)
      go_roundg (n - (ii + 1))
      case measure => omega
      case rel =>
        refine ⟨ii + 1, t1, ys.set ii t2, by omega, by omega, rfl, by go_num, ⟨?_, by simpa using HM.out.2⟩, ⟨by have q := HO.out; rw [Int.toNat_natCast] at q; exact q⟩, HK, HB⟩
        rw [List.drop_set_of_lt (by omega)]
        exact HM2.out
    · have hltz : ¬ (ii : Int) < (n : Int) := by omega
      obtain rfl : ii = n := by omega
      go_wp2
      go_ret
      have hm := HM.out.1
      rw [List.drop_eq_nil_of_le (by have := HM.out.2; omega)] at hm
      obtain rfl := Option.some.inj hm
      exact ⟨rfl, HB.out, HK.out⟩


/-! ### laws_heldRepairS: function 46 -/
def laws_heldRepairS.l0 : Nat → List (S64) → Int → Int → Option (Int)
  | 0, _, _, _ => none
  | k + 1, x0, x1, x5 => if x5 < (x0.length : Int) then (if 0 ≤ x5 then (if ((rd_T64 x0 x5).f0) = x1 then (if ((rd_T64 x0 x5).f1) = (wrap64 (x1 + 1)) then (if ((rd_T64 x0 x5).f2) = (wrap64 ((wrap64 (x1 + 1)) + 1)) then (laws_heldRepairS.l0 k x0 (wrap64 ((wrap64 ((wrap64 (x1 + 1)) + 1)) + 1)) (wrap64 (x5 + 1))) else (some (-1))) else (some (-1))) else (some (-1))) else (none)) else (some x1)
def laws_heldRepairS.f (k : Nat) (l0 : List (S64)) (a1 : Int) : Option (Int) := laws_heldRepairS.l0 k l0 a1 0
theorem laws_heldRepairS.mono_l : ∀ k, (∀ y0 y1 y2, LeO (laws_heldRepairS.l0 k y0 y1 y2) (laws_heldRepairS.l0 (k + 1) y0 y1 y2))
  | 0 => fun _ _ _ r h => by simp [laws_heldRepairS.l0] at h
  | k + 1 => by
    have ih0 := laws_heldRepairS.mono_l k
    · intro y0 y1 y2
      unfold laws_heldRepairS.l0
      repeat' first
      | (with_reducible exact ih0 _ _ _)
      | (with_reducible exact LeO.refl _)
      | (with_reducible exact LeO.none _)
      | (with_reducible refine LeO.ite ?_ ?_)
      | (with_reducible refine LeO.bind ?_ (fun _ => ?_))
      | exact ih0 _ _ _
      | exact LeO.none _
      | refine LeO.ite ?_ ?_
      | refine LeO.bind ?_ (fun _ => ?_)
theorem laws_heldRepairS.mono : ∀ a0 a1 k, LeO (laws_heldRepairS.f k a0 a1) (laws_heldRepairS.f (k + 1) a0 a1) := by
  intro a0 a1 k
  have ih0 := laws_heldRepairS.mono_l k
  unfold laws_heldRepairS.f
  repeat' first
      | (with_reducible exact ih0 _ _ _)
      | (with_reducible exact LeO.refl _)
      | (with_reducible exact LeO.none _)
      | (with_reducible refine LeO.ite ?_ ?_)
      | (with_reducible refine LeO.bind ?_ (fun _ => ?_))
      | exact ih0 _ _ _
      | exact LeO.none _
      | refine LeO.ite ?_ ?_
      | refine LeO.bind ?_ (fun _ => ?_)
set_option maxHeartbeats 8000000 in
set_option maxRecDepth 100000 in
theorem laws_heldRepairS.calls (k : Nat) (A0 : Option Addr) (c0 : Nat) (l0 : List (S64)) (a1 : Int) (r : Int) (w : World) (hr0 : Kd.C k64 w A0 l0.length l0) (hc0 : l0.length ≤ c0) (h : laws_heldRepairS.f k l0 a1 = some r) :
    Calls Try.prog 46 #[.slice A0 l0.length c0, .int .i64 a1] w fun e w' => e = .returned (.int .i64 r) ∧ Drawn0 w w' := by
  have HR0 := Aside0.mk hr0
  have HC0 := Aside0.mk hc0
  clear hr0 hc0
  have H : (laws_heldRepairS.l0 k l0 a1 0) = some r := h
  clear h
  have H' := Aside0.mk H
  clear H
  go_enter Try.func46, Try.ntmps46
  go_wp2
  go_loopg [1, 5] k (fun kq v1 v5 w' => ∃ (x1_1 : Int) (x5_1 : Int), v1 = .int .i64 x1_1 ∧ v5 = .int .i64 x5_1 ∧ Aside0 (laws_heldRepairS.l0 kq l0 x1_1 x5_1 = some r) ∧ Aside0 (kq ≤ k) ∧ Drawn0 w w')
  case atStart => exact ⟨(a1), (0), (by first | rfl | (simp; done) | (simp [*]; done)), (by first | rfl | (simp; done) | (simp [*]; done)), H', ⟨Nat.le_refl _⟩, by repeat (first | exact Drawn0.refl _ | apply Drawn0.step)⟩
  case round =>
    clear H'
    try clear p2
    obtain ⟨x1_1, x5_1, rfl, rfl, HA, HK1, ⟨m1, rfl⟩⟩ := hrel
    cases gk with
    | zero => exact absurd HA.out (by simp [laws_heldRepairS.l0])
    | succ k1 =>
      have H := HA.out
      clear HA
      simp only [laws_heldRepairS.l0] at H
      by_cases c3 : x5_1 < (l0.length : Int)
      · rw [if_pos c3] at H
        have c3b0 : decide (x5_1 < (l0.length : Int)) = true := decide_eq_true c3
        clear c3
        by_cases c4 : 0 ≤ x5_1
        · rw [if_pos c4] at H
          have c4b0 : decide (0 ≤ x5_1) = true := decide_eq_true c4
          clear c4
          by_cases c5 : ((rd_T64 l0 x5_1).f0) = x1_1
          · rw [if_pos c5] at H
            have c5b0 : (((rd_T64 l0 x5_1).f0) == x1_1) = true := beq_iff_eq.mpr c5
            have c5b1 : (((rd_T64 l0 x5_1).f0) != x1_1) = false := bne_eq_false_iff_eq.mpr c5
            clear c5
            by_cases c6 : ((rd_T64 l0 x5_1).f1) = (wrap64 (x1_1 + 1))
            · rw [if_pos c6] at H
              have c6b0 : (((rd_T64 l0 x5_1).f1) == (wrap64 (x1_1 + 1))) = true := beq_iff_eq.mpr c6
              have c6b1 : (((rd_T64 l0 x5_1).f1) != (wrap64 (x1_1 + 1))) = false := bne_eq_false_iff_eq.mpr c6
              clear c6
              by_cases c7 : ((rd_T64 l0 x5_1).f2) = (wrap64 ((wrap64 (x1_1 + 1)) + 1))
              · rw [if_pos c7] at H
                have c7b0 : (((rd_T64 l0 x5_1).f2) == (wrap64 ((wrap64 (x1_1 + 1)) + 1))) = true := beq_iff_eq.mpr c7
                have c7b1 : (((rd_T64 l0 x5_1).f2) != (wrap64 ((wrap64 (x1_1 + 1)) + 1))) = false := bne_eq_false_iff_eq.mpr c7
                clear c7
                have H' := Aside0.mk H
                clear H
                have p160 : 0 ≤ (x5_1 : Int) := of_decide_eq_true (by first | (with_reducible assumption) | assumption)
                have q160 : x5_1 < (l0.length : Int) := of_decide_eq_true (by first | (with_reducible assumption) | assumption)
                obtain ⟨ad160, e160, hx160_0, hx160_1, hx160_2⟩ := at_T64 HR0.out x5_1 p160 q160
                cases e160
                replace p160 := eq_true p160
                replace q160 := eq_true q160
                have p161 : 0 ≤ (x5_1 : Int) := of_decide_eq_true (by first | (with_reducible assumption) | assumption)
                have q161 : x5_1 < (l0.length : Int) := of_decide_eq_true (by first | (with_reducible assumption) | assumption)
                obtain ⟨ad161, e161, hx161_0, hx161_1, hx161_2⟩ := at_T64 HR0.out x5_1 p161 q161
                obtain rfl : ad160 = ad161 := (by injection e161)
                replace p161 := eq_true p161
                replace q161 := eq_true q161
                have p162 : 0 ≤ (x5_1 : Int) := of_decide_eq_true (by first | (with_reducible assumption) | assumption)
                have q162 : x5_1 < (l0.length : Int) := of_decide_eq_true (by first | (with_reducible assumption) | assumption)
                obtain ⟨ad162, e162, hx162_0, hx162_1, hx162_2⟩ := at_T64 HR0.out x5_1 p162 q162
                obtain rfl : ad160 = ad162 := (by injection e162)
                replace p162 := eq_true p162
                replace q162 := eq_true q162
                go_wp2
                go_roundg k1
                case measure => have := HK1.out; omega
                case rel => exact ⟨(wrap64 ((wrap64 ((wrap64 (x1_1 + 1)) + 1)) + 1)), (wrap64 (x5_1 + 1)), (by first | rfl | (simp; done) | (simp [*]; done)), (by first | rfl | (simp; done) | (simp [*]; done)), H', ⟨by have := HK1.out; omega⟩, by repeat (first | exact Drawn0.refl _ | apply Drawn0.step)⟩
              · rw [if_neg c7] at H
                have c7b0 : (((rd_T64 l0 x5_1).f2) == (wrap64 ((wrap64 (x1_1 + 1)) + 1))) = false := beq_eq_false_iff_ne.mpr c7
                have c7b1 : (((rd_T64 l0 x5_1).f2) != (wrap64 ((wrap64 (x1_1 + 1)) + 1))) = true := bne_iff_ne.mpr c7
                obtain rfl := Option.some.inj H
                have p160 : 0 ≤ (x5_1 : Int) := of_decide_eq_true (by first | (with_reducible assumption) | assumption)
                have q160 : x5_1 < (l0.length : Int) := of_decide_eq_true (by first | (with_reducible assumption) | assumption)
                obtain ⟨ad160, e160, hx160_0, hx160_1, hx160_2⟩ := at_T64 HR0.out x5_1 p160 q160
                cases e160
                replace p160 := eq_true p160
                replace q160 := eq_true q160
                have p161 : 0 ≤ (x5_1 : Int) := of_decide_eq_true (by first | (with_reducible assumption) | assumption)
                have q161 : x5_1 < (l0.length : Int) := of_decide_eq_true (by first | (with_reducible assumption) | assumption)
                obtain ⟨ad161, e161, hx161_0, hx161_1, hx161_2⟩ := at_T64 HR0.out x5_1 p161 q161
                obtain rfl : ad160 = ad161 := (by injection e161)
                replace p161 := eq_true p161
                replace q161 := eq_true q161
                have p162 : 0 ≤ (x5_1 : Int) := of_decide_eq_true (by first | (with_reducible assumption) | assumption)
                have q162 : x5_1 < (l0.length : Int) := of_decide_eq_true (by first | (with_reducible assumption) | assumption)
                obtain ⟨ad162, e162, hx162_0, hx162_1, hx162_2⟩ := at_T64 HR0.out x5_1 p162 q162
                obtain rfl : ad160 = ad162 := (by injection e162)
                replace p162 := eq_true p162
                replace q162 := eq_true q162
                go_wp2
                go_ret
                exact ⟨by first | rfl | (simp; done) | (simp [*]; done), by repeat (first | exact Drawn0.refl _ | apply Drawn0.step)⟩
            · rw [if_neg c6] at H
              have c6b0 : (((rd_T64 l0 x5_1).f1) == (wrap64 (x1_1 + 1))) = false := beq_eq_false_iff_ne.mpr c6
              have c6b1 : (((rd_T64 l0 x5_1).f1) != (wrap64 (x1_1 + 1))) = true := bne_iff_ne.mpr c6
              obtain rfl := Option.some.inj H
              have p160 : 0 ≤ (x5_1 : Int) := of_decide_eq_true (by first | (with_reducible assumption) | assumption)
              have q160 : x5_1 < (l0.length : Int) := of_decide_eq_true (by first | (with_reducible assumption) | assumption)
              obtain ⟨ad160, e160, hx160_0, hx160_1, hx160_2⟩ := at_T64 HR0.out x5_1 p160 q160
              cases e160
              replace p160 := eq_true p160
              replace q160 := eq_true q160
              have p161 : 0 ≤ (x5_1 : Int) := of_decide_eq_true (by first | (with_reducible assumption) | assumption)
              have q161 : x5_1 < (l0.length : Int) := of_decide_eq_true (by first | (with_reducible assumption) | assumption)
              obtain ⟨ad161, e161, hx161_0, hx161_1, hx161_2⟩ := at_T64 HR0.out x5_1 p161 q161
              obtain rfl : ad160 = ad161 := (by injection e161)
              replace p161 := eq_true p161
              replace q161 := eq_true q161
              go_wp2
              go_ret
              exact ⟨by first | rfl | (simp; done) | (simp [*]; done), by repeat (first | exact Drawn0.refl _ | apply Drawn0.step)⟩
          · rw [if_neg c5] at H
            have c5b0 : (((rd_T64 l0 x5_1).f0) == x1_1) = false := beq_eq_false_iff_ne.mpr c5
            have c5b1 : (((rd_T64 l0 x5_1).f0) != x1_1) = true := bne_iff_ne.mpr c5
            obtain rfl := Option.some.inj H
            have p160 : 0 ≤ (x5_1 : Int) := of_decide_eq_true (by first | (with_reducible assumption) | assumption)
            have q160 : x5_1 < (l0.length : Int) := of_decide_eq_true (by first | (with_reducible assumption) | assumption)
            obtain ⟨ad160, e160, hx160_0, hx160_1, hx160_2⟩ := at_T64 HR0.out x5_1 p160 q160
            cases e160
            replace p160 := eq_true p160
            replace q160 := eq_true q160
            go_wp2
            go_ret
            exact ⟨by first | rfl | (simp; done) | (simp [*]; done), by repeat (first | exact Drawn0.refl _ | apply Drawn0.step)⟩
        · rw [if_neg c4] at H
          exact absurd H (by simp)
      · rw [if_neg c3] at H
        have c3b0 : decide (x5_1 < (l0.length : Int)) = false := decide_eq_false c3
        clear c3
        obtain rfl := Option.some.inj H
        go_wp2
        go_ret
        exact ⟨by first | rfl | (simp; done) | (simp [*]; done), by repeat (first | exact Drawn0.refl _ | apply Drawn0.step)⟩

/-! ### laws_FnExactRepairsFor: function 11 -/
def laws_FnExactRepairsFor.f (k : Nat) (l0 : List Int) (l1 : List (List Int)) : Option Bool := if (l0.length : Int) > 1048576 then some true else (laws_szInt64SS.f k l1 1048576).bind fun s1 => if s1 < 0 then some true else (laws_toInt64S.f k l0).bind fun a0 => (laws_toInt64SS.f k l1).bind fun a1 => (spec_RepairsFor.f k a0 a1).bind fun ws => (impl_RepairsFor.f k a0 a1).bind fun g => if g.2 = ws.2 then ((laws_eqRepairS.f k g.1 ws.1).bind fun e => if e = true then ((laws_eqInt64S.f k a0 a0).bind fun e0 => if e0 = true then ((laws_eqInt64SS.f k a1 a1).bind fun e1 => if e1 = true then ((laws_markInt64S.f k a0 1).bind fun m0 => (laws_markInt64SS.f k a1 m0.1).bind fun m1 => if m1 < 0 then none else (laws_markRepairS.f k g.1 1).bind fun m => (laws_heldRepairS.f k m.2 1).bind fun q => if q < 0 then none else if q = m.1 then some true else none) else none) else none) else none) else none
set_option maxHeartbeats 16000000 in
set_option maxRecDepth 100000 in
theorem laws_FnExactRepairsFor.calls (k : Nat) (A0 : Option Addr) (c0 : Nat) (l0 : List Int) (A1 : Option Addr) (c1 : Nat) (l1 : List (List Int)) (r : Bool) (w : World) (hr0 : Kd.C (Kd.int .i64) w A0 l0.length l0) (hc0 : l0.length ≤ c0) (hr1 : Kd.C (Kd.slice 2 (Kd.int .i64)) w A1 l1.length l1) (hc1 : l1.length ≤ c1) (h : laws_FnExactRepairsFor.f k l0 l1 = some r) :
    Calls Try.prog 11 #[.slice A0 l0.length c0, .slice A1 l1.length c1] w fun e w' => e = .returned (.bool r) ∧ Below w.heap.size w w' := by
  have HR0 := Aside0.mk hr0
  have HC0 := Aside0.mk hc0
  have HR1 := Aside0.mk hr1
  have HC1 := Aside0.mk hc1
  have HB := Aside0.mk (Below.refl w.heap.size w)
  clear hr0 hc0 hr1 hc1
  unfold laws_FnExactRepairsFor.f at h
  by_cases b0 : (l0.length : Int) > 1048576
  · rw [if_pos b0] at h
    have bb0 : decide (1048576 < (l0.length : Int)) = true := decide_eq_true b0
    have bc0 : decide (1048576 < l0.length) = true := decide_eq_true (by omega)
    obtain rfl := Option.some.inj h
    clear h
    go_enter Try.func11, Try.ntmps11
    go_wp2
    go_ret
    exact ⟨rfl, HB.out⟩
  rw [if_neg b0] at h
  have bb0 : decide (1048576 < (l0.length : Int)) = false := decide_eq_false b0
  have bc0 : decide (1048576 < l0.length) = false := decide_eq_false (by omega)
  clear b0
  obtain ⟨s1, hs1, h⟩ := Option.bind_eq_some_iff.mp h
  have HZ1 := Aside0.mk hs1
  clear hs1
  by_cases b1 : s1 < 0
  · rw [if_pos b1] at h
    obtain rfl := Option.some.inj h
    clear h
    go_enter Try.func11, Try.ntmps11
    go_wp2_with (first | (go_at_call 40; refine (laws_szInt64SS.calls k _ _ l1 1048576 s1 _ (Kd.C_below HR1.out HB.out) HC1.out HZ1.out).mono ?_; rintro e wz1 ⟨rfl, ⟨nd, rfl⟩⟩; have n0_ := Aside0.mk (pw_below_drewN HB.out nd); clear HB; have HB := n0_; clear n0_))
    go_ret
    exact ⟨rfl, by have q := HB.out; (try rw [World.drewN_drewN] at q); exact q⟩
  rw [if_neg b1] at h
  obtain ⟨a0, hta0, h⟩ := Option.bind_eq_some_iff.mp h
  obtain ⟨a1, hta1, h⟩ := Option.bind_eq_some_iff.mp h
  obtain ⟨⟨ws, w2⟩, hsp, h⟩ := Option.bind_eq_some_iff.mp h
  obtain ⟨⟨g1, g2⟩, him, h⟩ := Option.bind_eq_some_iff.mp h
  by_cases e : g2 = w2
  case neg => rw [if_neg e] at h; cases h
  subst e
  rw [if_pos rfl] at h
  obtain ⟨eg, heq, h⟩ := Option.bind_eq_some_iff.mp h
  cases eg with
  | false => rw [if_neg (by simp)] at h; cases h
  | true =>
  rw [if_pos rfl] at h
  obtain ⟨e0, hee0, h⟩ := Option.bind_eq_some_iff.mp h
  cases e0 with
  | false => rw [if_neg (by simp)] at h; cases h
  | true =>
  rw [if_pos rfl] at h
  obtain ⟨e1, hee1, h⟩ := Option.bind_eq_some_iff.mp h
  cases e1 with
  | false => rw [if_neg (by simp)] at h; cases h
  | true =>
  rw [if_pos rfl] at h
  obtain ⟨⟨m0, u0⟩, hmk0, h⟩ := Option.bind_eq_some_iff.mp h
  obtain ⟨m1, hmk1, h⟩ := Option.bind_eq_some_iff.mp h
  by_cases hm1 : m1 < 0
  · rw [if_pos hm1] at h; cases h
  rw [if_neg hm1] at h
  obtain ⟨⟨m2, gm⟩, h8, h⟩ := Option.bind_eq_some_iff.mp h
  obtain ⟨q, h9, h⟩ := Option.bind_eq_some_iff.mp h
  by_cases hq : q < 0
  · rw [if_pos hq] at h; cases h
  rw [if_neg hq] at h
  by_cases e3 : q = m2
  case neg => rw [if_neg e3] at h; cases h
  rw [if_pos e3] at h
  obtain rfl := Option.some.inj h
  have heq : laws_eqRepairS.f k g1 ws = some true := heq
  have hmk0 : laws_markInt64S.f k a0 1 = some (m0, u0) := hmk0
  have hmk1 : laws_markInt64SS.f k a1 m0 = some m1 := hmk1
  have h8 : laws_markRepairS.f k g1 1 = some (m2, gm) := h8
  have h9 : laws_heldRepairS.f k gm 1 = some q := h9
  subst e3
  have HTA0 := Aside0.mk hta0
  have HTA1 := Aside0.mk hta1
  have HSP := Aside0.mk hsp
  have HIM := Aside0.mk him
  have HEQ := Aside0.mk heq
  have HEE0 := Aside0.mk hee0
  have HEE1 := Aside0.mk hee1
  have HMK0 := Aside0.mk hmk0
  have HMK1 := Aside0.mk hmk1
  have H8 := Aside0.mk h8
  have H9 := Aside0.mk h9
  clear h hta0 hta1 hsp him heq hee0 hee1 hmk0 hmk1 h8 h9
  have T0 := Aside0.mk trivial
  have T1 := Aside0.mk trivial
  have T2 := Aside0.mk trivial
  have T3 := Aside0.mk trivial
  have T4 := Aside0.mk trivial
  have T5 := Aside0.mk trivial
  have T6 := Aside0.mk trivial
  have T7 := Aside0.mk trivial
  have TS := Aside0.mk trivial
  have TI1 := Aside0.mk trivial
  have TI2 := Aside0.mk trivial
  have TE1 := Aside0.mk trivial
  have TE2 := Aside0.mk trivial
  have TE3 := Aside0.mk trivial
  have TH1 := Aside0.mk trivial
  have TH2 := Aside0.mk trivial
  have TQ0 := Aside0.mk trivial
  have TQ1 := Aside0.mk trivial
  have TM0 := Aside0.mk trivial
  have TM1 := Aside0.mk trivial
  have TG := Aside0.mk trivial
  go_enter Try.func11, Try.ntmps11
  go_wp2_with (first
    | (go_at_call 40; go_loud (refine (laws_szInt64SS.calls k _ _ l1 1048576 s1 _ (Kd.C_below HR1.out HB.out) HC1.out HZ1.out).mono ?_; rintro e wz1 ⟨rfl, ⟨nd, rfl⟩⟩; have n0_ := Aside0.mk (pw_below_drewN HB.out nd); clear HB; have HB := n0_; clear n0_))
    | (go_at_call 16; have t_ := T0; clear t_ T0; go_loud (refine (laws_toInt64S.calls k _ _ l0 a0 _ (Kd.C_below HR0.out HB.out) HC0.out HTA0.out).mono ?_; rintro e v1w ⟨v1, rfl, ho, hb⟩; have o_ := Aside0.mk (Kd.R_reads ho); have n0_ := Aside0.mk (below_step HB.out hb); clear HB; have HB := n0_; clear n0_; obtain ⟨Ax1, cx1, ex1, lx1, rx1⟩ := o_.out; subst ex1; have CA0 := Aside0.mk rx1; have LA0 := Aside0.mk lx1; clear o_ ho hb rx1 lx1))
    | (go_at_call 42; have t_ := T1; clear t_ T1; go_loud (refine (laws_toInt64SS.calls k _ _ l1 a1 _ (Kd.C_below HR1.out HB.out) HC1.out HTA1.out).mono ?_; rintro e v2w ⟨v2, rfl, ho, hb⟩; have o_ := Aside0.mk (Kd.S_reads ho); have z0_ := Aside0.mk (Kd.C_below CA0.out hb); clear CA0; have CA0 := z0_; clear z0_; have n0_ := Aside0.mk (below_step HB.out hb); clear HB; have HB := n0_; clear n0_; obtain ⟨Ax2, cx2, ex2, lx2, rx2⟩ := o_.out; subst ex2; have CA1 := Aside0.mk rx2; have LA1 := Aside0.mk lx2; clear o_ ho hb rx2 lx2))
    | (go_at_call 41; have t_ := TS; clear t_ TS; go_loud (refine (spec_RepairsFor.calls k _ _ a0 _ _ a1 ws g2 _ CA0.out LA0.out CA1.out LA1.out HSP.out).mono ?_; rintro e v3w ⟨v3, rfl, ho, hb⟩; have o_ := Aside0.mk (Kd.R_mono (Kd.R_bound (Kd.R_lower ho HB.out.size)) (fun k_ hk => (show k_ < v3w.heap.size from hk.2.2.1))); clear CA0 LA0 CA1 LA1; have n0_ := Aside0.mk (below_step HB.out hb); clear HB; have HB := n0_; clear n0_; have HWS := o_; clear o_ ho hb; obtain ⟨nw, hn_⟩ : ∃ n, v3w.heap.size = n := ⟨_, rfl⟩; rw [hn_] at HWS; have Nnw := Aside0.mk hn_; clear hn_; obtain ⟨Ax3, cx3, ex3⟩ := Kd.R_slice HWS.out; subst ex3))
    | (go_at_call 16; have t_ := T2; clear t_ T2; go_loud (refine (laws_toInt64S.calls k _ _ l0 a0 _ (Kd.C_below HR0.out HB.out) HC0.out HTA0.out).mono ?_; rintro e v4w ⟨v4, rfl, ho, hb⟩; have o_ := Aside0.mk (Kd.R_lower (Kd.R_mono (Kd.R_bound ho) (fun k_ hk => (show nw ≤ k_ ∧ k_ < v4w.heap.size from ⟨by rw [← Nnw.out]; exact hk.2.1, hk.2.2.1⟩))) HB.out.size); have le_ := Aside0.mk (show nw ≤ v4w.heap.size by rw [← Nnw.out]; exact hb.size); have z0_ := Aside0.mk (Kd.R_below HWS.out hb); clear HWS; have HWS := z0_; clear z0_; have n0_ := Aside0.mk (below_step HB.out hb); clear HB; have HB := n0_; clear n0_; have HX0 := o_; have LEn0 := le_; clear o_ le_ ho hb; obtain ⟨n0, hn_⟩ : ∃ n, v4w.heap.size = n := ⟨_, rfl⟩; rw [hn_] at HX0 LEn0; have Nn0 := Aside0.mk hn_; clear hn_; obtain ⟨Ax4, cx4, ex4⟩ := Kd.R_slice HX0.out; subst ex4))
    | (go_at_call 42; have t_ := T3; clear t_ T3; go_loud (refine (laws_toInt64SS.calls k _ _ l1 a1 _ (Kd.C_below HR1.out HB.out) HC1.out HTA1.out).mono ?_; rintro e v5w ⟨v5, rfl, ho, hb⟩; have o_ := Aside0.mk (Kd.S_lower (Kd.S_mono (Kd.S_bound ho) (fun k_ hk => (show n0 ≤ k_ ∧ k_ < v5w.heap.size from ⟨by rw [← Nn0.out]; exact hk.2.1, hk.2.2.1⟩))) HB.out.size); have le_ := Aside0.mk (show n0 ≤ v5w.heap.size by rw [← Nn0.out]; exact hb.size); have z0_ := Aside0.mk (Kd.R_below HWS.out hb); have z1_ := Aside0.mk (Kd.R_below HX0.out hb); clear HWS HX0; have HWS := z0_; have HX0 := z1_; clear z0_ z1_; have n0_ := Aside0.mk (below_step HB.out hb); clear HB; have HB := n0_; clear n0_; have HX1 := o_; have LEn1 := le_; clear o_ le_ ho hb; obtain ⟨n1, hn_⟩ : ∃ n, v5w.heap.size = n := ⟨_, rfl⟩; rw [hn_] at HX1 LEn1; have Nn1 := Aside0.mk hn_; clear hn_; obtain ⟨Ax5, cx5, ex5⟩ := Kd.S_slice HX1.out; subst ex5))
    | (go_at_call 43; have t_ := TI1; clear t_ TI1; go_loud (refine (impl_RepairsFor.calls k _ _ a0 _ _ a1 g1 g2 _ (Kd.R_reads' HX0.out).2.2 (Kd.R_reads' HX0.out).2.1 (Kd.S_reads' HX1.out).2.2 (Kd.S_reads' HX1.out).2.1 HIM.out).mono ?_; rintro e v6w ⟨v6, rfl, ho, hb⟩; have o_ := Aside0.mk (Kd.R_lower (Kd.R_mono (Kd.R_bound ho) (fun k_ hk => (show n1 ≤ k_ from by rw [← Nn1.out]; exact hk.2.1))) HB.out.size); have z0_ := Aside0.mk (Kd.R_below HWS.out hb); have z1_ := Aside0.mk (Kd.R_below HX0.out hb); have z2_ := Aside0.mk (Kd.S_below HX1.out hb); clear HWS HX0 HX1; have HWS := z0_; have HX0 := z1_; have HX1 := z2_; clear z0_ z1_ z2_; have n0_ := Aside0.mk (below_step HB.out hb); clear HB; have HB := n0_; clear n0_; have HG := o_; clear o_ ho hb; obtain ⟨Ax6, cx6, ex6⟩ := Kd.R_slice HG.out; subst ex6))
    | (go_at_call 36; have t_ := TE1; clear t_ TE1; go_loud (refine (laws_eqRepairS.calls k _ _ g1 _ _ ws true _ (Kd.R_reads' HG.out).2.2 (Kd.R_reads' HG.out).2.1 (Kd.R_reads' HWS.out).2.2 (Kd.R_reads' HWS.out).2.1 HEQ.out).mono ?_; rintro e we ⟨rfl, hb⟩; (first | (obtain ⟨nd, rfl⟩ := hb; have z0_ := Aside0.mk (Kd.R_drewN HWS.out nd); have z1_ := Aside0.mk (Kd.R_drewN HX0.out nd); have z2_ := Aside0.mk (Kd.S_drewN HX1.out nd); have z3_ := Aside0.mk (Kd.R_drewN HG.out nd); clear HWS HX0 HX1 HG; have HWS := z0_; have HX0 := z1_; have HX1 := z2_; have HG := z3_; clear z0_ z1_ z2_ z3_; have n0_ := Aside0.mk (pw_below_drewN HB.out nd); clear HB; have HB := n0_; clear n0_) | (have z0_ := Aside0.mk (Kd.R_below HWS.out hb); have z1_ := Aside0.mk (Kd.R_below HX0.out hb); have z2_ := Aside0.mk (Kd.S_below HX1.out hb); have z3_ := Aside0.mk (Kd.R_below HG.out hb); clear HWS HX0 HX1 HG; have HWS := z0_; have HX0 := z1_; have HX1 := z2_; have HG := z3_; clear z0_ z1_ z2_ z3_; have n0_ := Aside0.mk (below_step HB.out hb); clear HB; have HB := n0_; clear n0_; clear hb))))
    | (go_at_call 16; have t_ := T4; clear t_ T4; go_loud (refine (laws_toInt64S.calls k _ _ l0 a0 _ (Kd.C_below HR0.out HB.out) HC0.out HTA0.out).mono ?_; rintro e v7w ⟨v7, rfl, ho, hb⟩; have o_ := Aside0.mk (Kd.R_reads ho); have z0_ := Aside0.mk (Kd.R_below HWS.out hb); have z1_ := Aside0.mk (Kd.R_below HX0.out hb); have z2_ := Aside0.mk (Kd.S_below HX1.out hb); have z3_ := Aside0.mk (Kd.R_below HG.out hb); clear HWS HX0 HX1 HG; have HWS := z0_; have HX0 := z1_; have HX1 := z2_; have HG := z3_; clear z0_ z1_ z2_ z3_; have n0_ := Aside0.mk (below_step HB.out hb); clear HB; have HB := n0_; clear n0_; obtain ⟨Ax7, cx7, ex7, lx7, rx7⟩ := o_.out; subst ex7; have CA0 := Aside0.mk rx7; have LA0 := Aside0.mk lx7; clear o_ ho hb rx7 lx7))
    | (go_at_call 18; have t_ := TQ0; clear t_ TQ0; go_loud (refine (laws_eqInt64S.calls k _ _ a0 _ _ a0 true _ (Kd.R_reads' HX0.out).2.2 (Kd.R_reads' HX0.out).2.1 CA0.out LA0.out HEE0.out).mono ?_; rintro e we ⟨rfl, hb⟩; clear CA0 LA0; (first | (obtain ⟨nd, rfl⟩ := hb; have z0_ := Aside0.mk (Kd.R_drewN HWS.out nd); have z1_ := Aside0.mk (Kd.R_drewN HX0.out nd); have z2_ := Aside0.mk (Kd.S_drewN HX1.out nd); have z3_ := Aside0.mk (Kd.R_drewN HG.out nd); clear HWS HX0 HX1 HG; have HWS := z0_; have HX0 := z1_; have HX1 := z2_; have HG := z3_; clear z0_ z1_ z2_ z3_; have n0_ := Aside0.mk (pw_below_drewN HB.out nd); clear HB; have HB := n0_; clear n0_) | (have z0_ := Aside0.mk (Kd.R_below HWS.out hb); have z1_ := Aside0.mk (Kd.R_below HX0.out hb); have z2_ := Aside0.mk (Kd.S_below HX1.out hb); have z3_ := Aside0.mk (Kd.R_below HG.out hb); clear HWS HX0 HX1 HG; have HWS := z0_; have HX0 := z1_; have HX1 := z2_; have HG := z3_; clear z0_ z1_ z2_ z3_; have n0_ := Aside0.mk (below_step HB.out hb); clear HB; have HB := n0_; clear n0_; clear hb))))
    | (go_at_call 42; have t_ := T5; clear t_ T5; go_loud (refine (laws_toInt64SS.calls k _ _ l1 a1 _ (Kd.C_below HR1.out HB.out) HC1.out HTA1.out).mono ?_; rintro e v8w ⟨v8, rfl, ho, hb⟩; have o_ := Aside0.mk (Kd.S_reads ho); have z0_ := Aside0.mk (Kd.R_below HWS.out hb); have z1_ := Aside0.mk (Kd.R_below HX0.out hb); have z2_ := Aside0.mk (Kd.S_below HX1.out hb); have z3_ := Aside0.mk (Kd.R_below HG.out hb); clear HWS HX0 HX1 HG; have HWS := z0_; have HX0 := z1_; have HX1 := z2_; have HG := z3_; clear z0_ z1_ z2_ z3_; have n0_ := Aside0.mk (below_step HB.out hb); clear HB; have HB := n0_; clear n0_; obtain ⟨Ax8, cx8, ex8, lx8, rx8⟩ := o_.out; subst ex8; have CA1 := Aside0.mk rx8; have LA1 := Aside0.mk lx8; clear o_ ho hb rx8 lx8))
    | (go_at_call 44; have t_ := TQ1; clear t_ TQ1; go_loud (refine (laws_eqInt64SS.calls k _ _ a1 _ _ a1 true _ (Kd.S_reads' HX1.out).2.2 (Kd.S_reads' HX1.out).2.1 CA1.out LA1.out HEE1.out).mono ?_; rintro e we ⟨rfl, hb⟩; clear CA1 LA1; (first | (obtain ⟨nd, rfl⟩ := hb; have z0_ := Aside0.mk (Kd.R_drewN HWS.out nd); have z1_ := Aside0.mk (Kd.R_drewN HX0.out nd); have z2_ := Aside0.mk (Kd.S_drewN HX1.out nd); have z3_ := Aside0.mk (Kd.R_drewN HG.out nd); clear HWS HX0 HX1 HG; have HWS := z0_; have HX0 := z1_; have HX1 := z2_; have HG := z3_; clear z0_ z1_ z2_ z3_; have n0_ := Aside0.mk (pw_below_drewN HB.out nd); clear HB; have HB := n0_; clear n0_) | (have z0_ := Aside0.mk (Kd.R_below HWS.out hb); have z1_ := Aside0.mk (Kd.R_below HX0.out hb); have z2_ := Aside0.mk (Kd.S_below HX1.out hb); have z3_ := Aside0.mk (Kd.R_below HG.out hb); clear HWS HX0 HX1 HG; have HWS := z0_; have HX0 := z1_; have HX1 := z2_; have HG := z3_; clear z0_ z1_ z2_ z3_; have n0_ := Aside0.mk (below_step HB.out hb); clear HB; have HB := n0_; clear n0_; clear hb))))
    | (go_at_call 23; have t_ := TM0; clear t_ TM0; have LT0 := Aside0.mk (show n0 ≤ n1 by have := LEn0.out; have := LEn1.out; omega); have LS0_HX1 := Aside0.mk (show n0 ≤ n0 by have := LEn0.out; have := LEn1.out; omega); go_loud (refine (laws_markInt64S.calls k (fun k_ => nw ≤ k_ ∧ k_ < n0) _ a0 1 m0 u0 w _ HB.out HX0.out HMK0.out).mono ?_; rintro e wm ⟨rfl, hy, hb, hk⟩; have z0_ := Aside0.mk (Kd.R_kept HWS.out hk (fun k_ a_ b_ => Nat.not_lt.2 (Nat.le_trans (Nat.le_refl _) b_.1) a_)); have z1_ := Aside0.mk (Kd.S_kept HX1.out hk (fun k_ a_ b_ => Nat.not_lt.2 (Nat.le_trans LS0_HX1.out a_.1) b_.2)); have z2_ := Aside0.mk (Kd.R_kept HG.out hk (fun k_ a_ b_ => Nat.not_lt.2 (Nat.le_trans LT0.out a_) b_.2)); clear HWS HX1 HG; have HWS := z0_; have HX1 := z1_; have HG := z2_; clear z0_ z1_ z2_; clear HB HX0 hk; have HB := Aside0.mk hb; clear hb hy))
    | (go_at_call 45; have t_ := TM1; clear t_ TM1; have LEW1 := Aside0.mk (show nw ≤ n0 by have := LEn0.out; omega); have LT1 := Aside0.mk (show n1 ≤ n1 by have := LEn0.out; have := LEn1.out; omega); go_loud (refine (laws_markInt64SS.calls_ k (fun k_ => n0 ≤ k_ ∧ k_ < n1) _ a1 m0 m1 w _ HB.out HX1.out HMK1.out).mono ?_; rintro e wm ⟨rfl, hb, hk⟩; have z0_ := Aside0.mk (Kd.R_kept HWS.out hk (fun k_ a_ b_ => Nat.not_lt.2 (Nat.le_trans LEW1.out b_.1) a_)); have z1_ := Aside0.mk (Kd.R_kept HG.out hk (fun k_ a_ b_ => Nat.not_lt.2 (Nat.le_trans LT1.out a_) b_.2)); clear HWS HG; have HWS := z0_; have HG := z1_; clear z0_ z1_; clear HB HX1 hk; have HB := Aside0.mk hb; clear hb))
    | (go_at_call 36; have t_ := TE2; clear t_ TE2; go_loud (refine (laws_eqRepairS.calls k _ _ g1 _ _ ws true _ (Kd.R_reads' HG.out).2.2 (Kd.R_reads' HG.out).2.1 (Kd.R_reads' HWS.out).2.2 (Kd.R_reads' HWS.out).2.1 HEQ.out).mono ?_; rintro e we ⟨rfl, hb⟩; (first | (obtain ⟨nd, rfl⟩ := hb; have z0_ := Aside0.mk (Kd.R_drewN HWS.out nd); have z1_ := Aside0.mk (Kd.R_drewN HG.out nd); clear HWS HG; have HWS := z0_; have HG := z1_; clear z0_ z1_; have n0_ := Aside0.mk (pw_below_drewN HB.out nd); clear HB; have HB := n0_; clear n0_) | (have z0_ := Aside0.mk (Kd.R_below HWS.out hb); have z1_ := Aside0.mk (Kd.R_below HG.out hb); clear HWS HG; have HWS := z0_; have HG := z1_; clear z0_ z1_; have n0_ := Aside0.mk (below_step HB.out hb); clear HB; have HB := n0_; clear n0_; clear hb))))
    | (go_at_call 37; have t_ := TG; clear t_ TG; go_loud (refine (laws_markRepairS.calls k (fun k_ => n1 ≤ k_) _ g1 1 q gm w _ HB.out HG.out H8.out).mono ?_; rintro e wm ⟨rfl, hy, hb, hk⟩; have z0_ := Aside0.mk (Kd.R_kept HWS.out hk (fun k_ a_ b_ => by have := LEn0.out; have := LEn1.out; omega)); clear HB HWS HG hk; have HB := Aside0.mk hb; have HWS := z0_; have HG := Aside0.mk hy; clear z0_ hb hy; have GL := Aside0.mk (Kd.R_reads' HG.out).1))
    | (go_at_call 46; have t_ := TH1; clear t_ TH1; rw [GL.out]; go_loud (refine (laws_heldRepairS.calls k _ _ gm 1 q _ (Kd.R_reads' HG.out).2.2 (by rw [← GL.out]; exact (Kd.R_reads' HG.out).2.1) H9.out).mono ?_; rintro e we ⟨rfl, hb⟩; (first | (obtain ⟨nd, rfl⟩ := hb; have z0_ := Aside0.mk (Kd.R_drewN HWS.out nd); have z1_ := Aside0.mk (Kd.R_drewN HG.out nd); clear HWS HG; have HWS := z0_; have HG := z1_; clear z0_ z1_; have n0_ := Aside0.mk (pw_below_drewN HB.out nd); clear HB; have HB := n0_; clear n0_) | (have z0_ := Aside0.mk (Kd.R_below HWS.out hb); have z1_ := Aside0.mk (Kd.R_below HG.out hb); clear HWS HG; have HWS := z0_; have HG := z1_; clear z0_ z1_; have n0_ := Aside0.mk (below_step HB.out hb); clear HB; have HB := n0_; clear n0_; clear hb))))
    | (go_at_call 16; have t_ := T6; clear t_ T6; go_loud (refine (laws_toInt64S.calls k _ _ l0 a0 _ (Kd.C_below HR0.out HB.out) HC0.out HTA0.out).mono ?_; rintro e v9w ⟨v9, rfl, ho, hb⟩; have o_ := Aside0.mk (Kd.R_reads ho); have z0_ := Aside0.mk (Kd.R_below HWS.out hb); have z1_ := Aside0.mk (Kd.R_below HG.out hb); clear HWS HG; have HWS := z0_; have HG := z1_; clear z0_ z1_; have n0_ := Aside0.mk (below_step HB.out hb); clear HB; have HB := n0_; clear n0_; obtain ⟨Ax9, cx9, ex9, lx9, rx9⟩ := o_.out; subst ex9; have CA0 := Aside0.mk rx9; have LA0 := Aside0.mk lx9; clear o_ ho hb rx9 lx9))
    | (go_at_call 42; have t_ := T7; clear t_ T7; go_loud (refine (laws_toInt64SS.calls k _ _ l1 a1 _ (Kd.C_below HR1.out HB.out) HC1.out HTA1.out).mono ?_; rintro e v10w ⟨v10, rfl, ho, hb⟩; have o_ := Aside0.mk (Kd.S_reads ho); have z0_ := Aside0.mk (Kd.R_below HWS.out hb); have z1_ := Aside0.mk (Kd.R_below HG.out hb); have z2_ := Aside0.mk (Kd.C_below CA0.out hb); clear HWS HG CA0; have HWS := z0_; have HG := z1_; have CA0 := z2_; clear z0_ z1_ z2_; have n0_ := Aside0.mk (below_step HB.out hb); clear HB; have HB := n0_; clear n0_; obtain ⟨Ax10, cx10, ex10, lx10, rx10⟩ := o_.out; subst ex10; have CA1 := Aside0.mk rx10; have LA1 := Aside0.mk lx10; clear o_ ho hb rx10 lx10))
    | (go_at_call 43; have t_ := TI2; clear t_ TI2; go_loud (refine (impl_RepairsFor.calls k _ _ a0 _ _ a1 g1 g2 _ CA0.out LA0.out CA1.out LA1.out HIM.out).mono ?_; rintro e v11w ⟨v11, rfl, ho, hb⟩; have o_ := Aside0.mk (Kd.R_reads ho); clear CA0 LA0 CA1 LA1; have z0_ := Aside0.mk (Kd.R_below HWS.out hb); have z1_ := Aside0.mk (Kd.R_below HG.out hb); clear HWS HG; have HWS := z0_; have HG := z1_; clear z0_ z1_; have n0_ := Aside0.mk (below_step HB.out hb); clear HB; have HB := n0_; clear n0_; obtain ⟨Ax11, cx11, ex11, lx11, rx11⟩ := o_.out; subst ex11; have CH := Aside0.mk rx11; have LH := Aside0.mk lx11; clear o_ ho hb rx11 lx11))
    | (go_at_call 36; have t_ := TE3; clear t_ TE3; go_loud (refine (laws_eqRepairS.calls k _ _ g1 _ _ ws true _ CH.out LH.out (Kd.R_reads' HWS.out).2.2 (Kd.R_reads' HWS.out).2.1 HEQ.out).mono ?_; rintro e we ⟨rfl, hb⟩; clear CH LH; (first | (obtain ⟨nd, rfl⟩ := hb; have z0_ := Aside0.mk (Kd.R_drewN HWS.out nd); have z1_ := Aside0.mk (Kd.R_drewN HG.out nd); clear HWS HG; have HWS := z0_; have HG := z1_; clear z0_ z1_; have n0_ := Aside0.mk (pw_below_drewN HB.out nd); clear HB; have HB := n0_; clear n0_) | (have z0_ := Aside0.mk (Kd.R_below HWS.out hb); have z1_ := Aside0.mk (Kd.R_below HG.out hb); clear HWS HG; have HWS := z0_; have HG := z1_; clear z0_ z1_; have n0_ := Aside0.mk (below_step HB.out hb); clear HB; have HB := n0_; clear n0_; clear hb))))
    | (go_at_call 46; have t_ := TH2; clear t_ TH2; rw [GL.out]; go_loud (refine (laws_heldRepairS.calls k _ _ gm 1 q _ (Kd.R_reads' HG.out).2.2 (by rw [← GL.out]; exact (Kd.R_reads' HG.out).2.1) H9.out).mono ?_; rintro e we ⟨rfl, hb⟩; (first | (obtain ⟨nd, rfl⟩ := hb; have z0_ := Aside0.mk (Kd.R_drewN HWS.out nd); have z1_ := Aside0.mk (Kd.R_drewN HG.out nd); clear HWS HG; have HWS := z0_; have HG := z1_; clear z0_ z1_; have n0_ := Aside0.mk (pw_below_drewN HB.out nd); clear HB; have HB := n0_; clear n0_) | (have z0_ := Aside0.mk (Kd.R_below HWS.out hb); have z1_ := Aside0.mk (Kd.R_below HG.out hb); clear HWS HG; have HWS := z0_; have HG := z1_; clear z0_ z1_; have n0_ := Aside0.mk (below_step HB.out hb); clear HB; have HB := n0_; clear n0_; clear hb)))))
  go_ret
  exact ⟨rfl, by have q := HB.out; (try rw [World.drewN_drewN] at q); exact q⟩

def laws_FnExactRepairsFor.Pure : Prop := ∀ (l0 : List Int) (l1 : List (List Int)), l0.length ≤ maxLen → l0.length * 8 ≤ 140737488351232 → (∀ x ∈ l0, (Lit.int .i64 x).wf = true) → l1.length ≤ maxLen → l1.length * 24 ≤ 140737488351232 → (∀ x ∈ l1, x.length ≤ maxLen ∧ ∀ n_ ∈ x, (Lit.int .i64 n_).wf = true) → ∃ k, laws_FnExactRepairsFor.f k l0 l1 = some true
theorem laws_FnExactRepairsFor.walk (P : laws_FnExactRepairsFor.Pure) (a0 : Option Addr) (len0 cap0 : Nat) (z0 : List Int) (a1 : Option Addr) (len1 cap1 : Nat) (l1 : List (List Int)) (w : World) (w0 : (a0 = none ∧ len0 = 0 ∧ cap0 = 0 ∧ z0 = []) ∨ ∃ x, a0 = some x ∧ len0 ≤ cap0 ∧ cap0 ≤ maxLen ∧ z0.length = cap0 ∧ (∀ i, i < z0.length → w.cell? (x.add i) = some (.int .i64 (z0.getD i 0))) ∧ ∀ n ∈ z0, (Lit.int .i64 n).wf = true) (y0 : len0 * 8 ≤ 140737488351232) (w1 : Kd.C (Kd.slice 2 (Kd.int .i64)) w a1 len1 l1 ∧ len1 ≤ cap1 ∧ len1 ≤ maxLen ∧ ∀ x ∈ l1, x.length ≤ maxLen ∧ ∀ n_ ∈ x, (Lit.int .i64 n_).wf = true) (y1 : len1 * 24 ≤ 140737488351232) :
    Calls Try.prog 11 #[.slice a0 len0 cap0, .slice a1 len1 cap1] w fun e w' => e = .returned (.bool true) ∧ Below w.heap.size w w' := by
  obtain ⟨l0, rfl, hr0, hm0, hw0, hc0⟩ := ReadsInt.ofRowC w0
  obtain ⟨hr1, hc1, hm1, hw1⟩ := w1
  obtain rfl : l1.length = len1 := hr1.1
  obtain ⟨k, h⟩ := P l0 l1 hm0 y0 hw0 hm1 y1 hw1
  refine (laws_FnExactRepairsFor.calls k _ _ l0 _ _ l1 true w (Kd.C_of_reads (d := (0 : Int)) (h1 := fun _ => rfl) hr0) hc0 hr1 hc1 h).mono ?_
  rintro e w' ⟨rfl, hd⟩
  exact ⟨rfl, hd⟩

end Go.Proofs.Ytfajacoagaamlaa.QFnExactRepairsFor
