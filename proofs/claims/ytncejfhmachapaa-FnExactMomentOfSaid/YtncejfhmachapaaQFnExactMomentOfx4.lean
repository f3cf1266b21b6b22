/- Walks of the Go functions that the law FnExactMomentOf reaches: written by a program of this session. -/
import Derived.Test.YtncejfhmachapaaQFnExactMomentOfx0
import Derived.Test.YtncejfhmachapaaQFnExactMomentOfx1
import Derived.Test.YtncejfhmachapaaQFnExactMomentOfx2
import Derived.Test.YtncejfhmachapaaQFnExactMomentOfx3
namespace Go.Proofs.Ytncejfhmachapaa.QFnExactMomentOf
open Go.RowKit Go.Proofs.YtncejfhmachapaaW.PrintWords Go.Proofs.YtncejfhmachapaaW.PrintLast Go.Proofs.YtncejfhmachapaaW.PrintMore
attribute [local go_sem] max2_int min2_int max_two min_two max_three min_three max_four min_four   -- for this text's walks alone
set_option linter.unusedVariables false
set_option linter.unusedSimpArgs false

/-! ### impl_moment_with: function 92 -/
def impl_moment_with.f (k : Nat) (a0_0 : Int) (a0_1 : Int) (a0_2 : Int) (a1_0 : Int) (a1_1 : Int) (a2 : Int) : Option (Int × Int × Int) := (impl_cosine.f k a1_0).bind fun t179 => ((impl_cosine.f k a1_1).bind fun t180 => ((impl_nearest.f (wrap64 (t179 * t180)) 1000000).bind fun t181 => ((impl_sine.f k a1_1).bind fun t182 => ((impl_nearest.f (wrap64 (t179 * t182)) 1000000).bind fun t183 => ((impl_sine.f k a1_0).bind fun t184 => (some (wrap64 (a0_0 + (wrap64 (a2 * t181))), wrap64 (a0_1 + (wrap64 (a2 * t183))), wrap64 (a0_2 + (wrap64 (a2 * t184))))))))))
theorem impl_moment_with.mono : ∀ a0 a1 a2 a3 a4 a5 k, LeO (impl_moment_with.f k a0 a1 a2 a3 a4 a5) (impl_moment_with.f (k + 1) a0 a1 a2 a3 a4 a5) := by
  intro a0 a1 a2 a3 a4 a5 k
  unfold impl_moment_with.f
  repeat' first
      | (with_reducible exact impl_cosine.mono _ _)
      | (with_reducible exact impl_sine.mono _ _)
      | (with_reducible exact LeO.refl _)
      | (with_reducible exact LeO.none _)
      | (with_reducible refine LeO.ite ?_ ?_)
      | (with_reducible refine LeO.bind ?_ (fun _ => ?_))
      | exact impl_cosine.mono _ _
      | exact impl_sine.mono _ _
      | exact LeO.none _
      | refine LeO.ite ?_ ?_
      | refine LeO.bind ?_ (fun _ => ?_)
def impl_moment_with.T2 : Bool × List (List Nat × List Nat) := (true, [([], []), ([0], [0]), ([], []), ([], []), ([], []), ([4], [4]), ([5], [5]), ([3, 6], [3, 6]), ([7, 6], [7]), ([2, 8], [2, 8]), ([1, 9], [1, 9]), ([0, 1, 2, 3, 4, 5, 6, 7, 8, 9, 10], []), ([11, 10, 8, 0, 1, 2, 3, 4, 5, 6, 7, 8, 9, 10], [10, 11])])
def impl_moment_with.B2 : List Nat := [0, 1, 0, 0, 0, 16, 48, 120, 248, 508, 1023, 2047, 4095]
theorem impl_moment_with.tab2 : rtab .any (opsOf Try.f92 2) = impl_moment_with.T2 := by kernel_rfl
theorem impl_moment_with.bits2 : waitsOk impl_moment_with.T2.2 impl_moment_with.B2 = true := by kernel_rfl
def impl_moment_with.T3 : Bool × List (List Nat × List Nat) := (true, [([], []), ([0], [0]), ([], []), ([], []), ([], []), ([4], [4]), ([5], [5]), ([3, 6], [3, 6]), ([7, 6], [7]), ([2, 8], [2, 8]), ([1, 9], [1, 9]), ([0, 1, 2, 3, 4, 5, 6, 7, 8, 9, 10], []), ([11, 10, 8, 0, 1, 2, 3, 4, 5, 6, 7, 8, 9, 10], [10, 11])])
def impl_moment_with.B3 : List Nat := [0, 1, 0, 0, 0, 16, 48, 120, 248, 508, 1023, 2047, 4095]
theorem impl_moment_with.tab3 : rtab .any (opsOf Try.f92 3) = impl_moment_with.T3 := by kernel_rfl
theorem impl_moment_with.bits3 : waitsOk impl_moment_with.T3.2 impl_moment_with.B3 = true := by kernel_rfl
def impl_moment_with.T4 : Bool × List (List Nat × List Nat) := (true, [([], []), ([0], [0]), ([], []), ([], []), ([3], [3]), ([4], [4]), ([2, 5], [2, 5]), ([1, 6], [1, 6]), ([0, 1, 2, 3, 4, 5, 6, 7], []), ([8, 7, 5, 0, 1, 2, 3, 4, 5, 6, 7], [7, 8])])
def impl_moment_with.B4 : List Nat := [0, 1, 0, 0, 8, 24, 60, 127, 255, 511]
theorem impl_moment_with.tab4 : rtab .any (opsOf Try.f92 4) = impl_moment_with.T4 := by kernel_rfl
theorem impl_moment_with.bits4 : waitsOk impl_moment_with.T4.2 impl_moment_with.B4 = true := by kernel_rfl
set_option maxHeartbeats 8000000 in
set_option maxRecDepth 100000 in
theorem impl_moment_with.calls (k : Nat) (a0_0 : Int) (a0_1 : Int) (a0_2 : Int) (a1_0 : Int) (a1_1 : Int) (a2 : Int) (r1 : Int) (r2 : Int) (r3 : Int) (w : World) (h : impl_moment_with.f k a0_0 a0_1 a0_2 a1_0 a1_1 a2 = some (r1, r2, r3)) :
    Calls Try.prog 92 #[.agg #[.int .i64 a0_0, .int .i64 a0_1, .int .i64 a0_2], .agg #[.int .i64 a1_0, .int .i64 a1_1], .int .i64 a2] w fun e w' => e = .returned (.agg #[.int .i64 r1, .int .i64 r2, .int .i64 r3]) ∧ Below w.heap.size w w' := by
  have hu81 := Try.underlying81
  have hu62 := Try.underlying62
  have HB := Aside0.mk (Below.refl w.heap.size w)
  have H : ((impl_cosine.f k a1_0).bind fun t179 => ((impl_cosine.f k a1_1).bind fun t180 => ((impl_nearest.f (wrap64 (t179 * t180)) 1000000).bind fun t181 => ((impl_sine.f k a1_1).bind fun t182 => ((impl_nearest.f (wrap64 (t179 * t182)) 1000000).bind fun t183 => ((impl_sine.f k a1_0).bind fun t184 => (some (wrap64 (a0_0 + (wrap64 (a2 * t181))), wrap64 (a0_1 + (wrap64 (a2 * t183))), wrap64 (a0_2 + (wrap64 (a2 * t184))))))))))) = some (r1, r2, r3) := h
  clear h
  replace H := Option.bind_eq_some_iff.mp H
  obtain ⟨t179, A40, H⟩ := H
  replace H : ((impl_cosine.f k a1_1).bind fun t180 => ((impl_nearest.f (wrap64 (t179 * t180)) 1000000).bind fun t181 => ((impl_sine.f k a1_1).bind fun t182 => ((impl_nearest.f (wrap64 (t179 * t182)) 1000000).bind fun t183 => ((impl_sine.f k a1_0).bind fun t184 => (some (wrap64 (a0_0 + (wrap64 (a2 * t181))), wrap64 (a0_1 + (wrap64 (a2 * t183))), wrap64 (a0_2 + (wrap64 (a2 * t184)))))))))) = some (r1, r2, r3) := H
  have A4 := Aside0.mk A40
  clear A40
  replace H := Option.bind_eq_some_iff.mp H
  obtain ⟨t180, A50, H⟩ := H
  replace H : ((impl_nearest.f (wrap64 (t179 * t180)) 1000000).bind fun t181 => ((impl_sine.f k a1_1).bind fun t182 => ((impl_nearest.f (wrap64 (t179 * t182)) 1000000).bind fun t183 => ((impl_sine.f k a1_0).bind fun t184 => (some (wrap64 (a0_0 + (wrap64 (a2 * t181))), wrap64 (a0_1 + (wrap64 (a2 * t183))), wrap64 (a0_2 + (wrap64 (a2 * t184))))))))) = some (r1, r2, r3) := H
  have A5 := Aside0.mk A50
  clear A50
  replace H := Option.bind_eq_some_iff.mp H
  obtain ⟨t181, A60, H⟩ := H
  replace H : ((impl_sine.f k a1_1).bind fun t182 => ((impl_nearest.f (wrap64 (t179 * t182)) 1000000).bind fun t183 => ((impl_sine.f k a1_0).bind fun t184 => (some (wrap64 (a0_0 + (wrap64 (a2 * t181))), wrap64 (a0_1 + (wrap64 (a2 * t183))), wrap64 (a0_2 + (wrap64 (a2 * t184)))))))) = some (r1, r2, r3) := H
  have A6 := Aside0.mk A60
  clear A60
  replace H := Option.bind_eq_some_iff.mp H
  obtain ⟨t182, A70, H⟩ := H
  replace H : ((impl_nearest.f (wrap64 (t179 * t182)) 1000000).bind fun t183 => ((impl_sine.f k a1_0).bind fun t184 => (some (wrap64 (a0_0 + (wrap64 (a2 * t181))), wrap64 (a0_1 + (wrap64 (a2 * t183))), wrap64 (a0_2 + (wrap64 (a2 * t184))))))) = some (r1, r2, r3) := H
  have A7 := Aside0.mk A70
  clear A70
  replace H := Option.bind_eq_some_iff.mp H
  obtain ⟨t183, A80, H⟩ := H
  replace H : ((impl_sine.f k a1_0).bind fun t184 => (some (wrap64 (a0_0 + (wrap64 (a2 * t181))), wrap64 (a0_1 + (wrap64 (a2 * t183))), wrap64 (a0_2 + (wrap64 (a2 * t184)))))) = some (r1, r2, r3) := H
  have A8 := Aside0.mk A80
  clear A80
  replace H := Option.bind_eq_some_iff.mp H
  obtain ⟨t184, A90, H⟩ := H
  replace H : (some (wrap64 (a0_0 + (wrap64 (a2 * t181))), wrap64 (a0_1 + (wrap64 (a2 * t183))), wrap64 (a0_2 + (wrap64 (a2 * t184))))) = some (r1, r2, r3) := H
  have A9 := Aside0.mk A90
  clear A90
  simp only [Option.some.injEq, Prod.mk.injEq] at H
  obtain ⟨rfl, rfl, rfl⟩ := H
  go_enter Try.func92, Try.ntmps92
  try go_wp2_with (first | ((with_reducible refine gate_dst (N := 3) rfl ?_); refine box_event ?hg (N := 3) ?hd (cs := #[.int .i64 a0_0, .int .i64 a0_1, .int .i64 a0_2]) (t := 81) ?hr ?_; (case hd => rfl); (case hg => rfl); (case hr => first | (go_simp; done) | (go_simp; rfl)); intro gb176 hg w10 hbox hb; have n0_ := Aside0.mk (below_step (by repeat (first | (with_reducible first | exact HB.out | apply below_alloc | apply pw_below_drewN | apply below_drew1) | exact HB.out)) hb); have n1_ := Aside0.mk (hbox); have n2_ := Aside0.mk ((by rw [hg]; exact (below_size (by repeat (first | (with_reducible first | exact HB.out | apply below_alloc | apply pw_below_drewN | apply below_drew1) | exact HB.out))) : w.heap.size ≤ gb176)); have n3_ := Aside0.mk ((by rw [hg]; exact (below_size (by repeat (first | (with_reducible first | exact HB.out | apply below_alloc | apply pw_below_drewN | apply below_drew1) | exact HB.out))) : w.heap.size ≤ gb176)); clear HB; have HB := n0_; have BK176 := n1_; have GW176 := n2_; have GE176 := n3_; clear n0_ n1_ n2_ n3_; clear hb hbox hg) | ((with_reducible refine gate_dst (N := 4) rfl ?_); refine box_event ?hg (N := 4) ?hd (cs := #[.int .i64 a1_0, .int .i64 a1_1]) (t := 62) ?hr ?_; (case hd => rfl); (case hg => rfl); (case hr => first | (go_simp; done) | (go_simp; rfl)); intro gb177 hg w11 hbox hb; have n0_ := Aside0.mk (blk_below (g := gb176) (o := .cells #[.int .i64 a0_0, .int .i64 a0_1, .int .i64 a0_2] 81 (0, 0)) (by (with_reducible repeat (first | refine blk_drewN ?_ _ | refine blk_drew ?_ | refine blk_alloc ?_ _)); exact BK176.out) hb); have n1_ := Aside0.mk (below_step (by repeat (first | (with_reducible first | exact HB.out | apply below_alloc | apply pw_below_drewN | apply below_drew1 | refine below_set ?_ GE176.out) | exact HB.out)) hb); have n2_ := Aside0.mk (hbox); have n3_ := Aside0.mk ((by rw [hg]; exact (below_size (by repeat (first | (with_reducible first | exact HB.out | apply below_alloc | apply pw_below_drewN | apply below_drew1 | refine below_set ?_ GE176.out) | exact HB.out))) : w.heap.size ≤ gb177)); have n4_ := Aside0.mk ((by rw [hg]; exact (below_size (by repeat (first | (with_reducible first | exact HB.out | apply below_alloc | apply pw_below_drewN | apply below_drew1 | refine below_set ?_ GE176.out) | exact HB.out))) : w.heap.size ≤ gb177)); have n5_ := Aside0.mk ((by rw [hg]; exact Nat.ne_of_lt (blk_lt (g := gb176) (o := .cells #[.int .i64 a0_0, .int .i64 a0_1, .int .i64 a0_2] 81 (0, 0)) (by (with_reducible repeat (first | refine blk_drewN ?_ _ | refine blk_drew ?_ | refine blk_alloc ?_ _)); exact BK176.out)) : gb176 ≠ gb177)); have n6_ := Aside0.mk ((by rw [hg]; exact Nat.ne_of_gt (blk_lt (g := gb176) (o := .cells #[.int .i64 a0_0, .int .i64 a0_1, .int .i64 a0_2] 81 (0, 0)) (by (with_reducible repeat (first | refine blk_drewN ?_ _ | refine blk_drew ?_ | refine blk_alloc ?_ _)); exact BK176.out)) : gb177 ≠ gb176)); clear BK176; clear HB; have BK176 := n0_; have HB := n1_; have BK177 := n2_; have GW177 := n3_; have GE177 := n4_; have NB176_177 := n5_; have NB177_176 := n6_; clear n0_ n1_ n2_ n3_ n4_ n5_ n6_; clear hb hbox hg) | ((with_reducible refine gate_dst (N := 6) rfl ?_); refine box_event ?hg (N := 6) ?hd (cs := #[.int .i64 0, .int .i64 0, .int .i64 0]) (t := 81) ?hr ?_; (case hd => rfl); (case hg => rfl); (case hr => first | (go_simp; done) | (go_simp; rfl)); intro gb178 hg w12 hbox hb; have n0_ := Aside0.mk (blk_below (g := gb176) (o := .cells #[.int .i64 a0_0, .int .i64 a0_1, .int .i64 a0_2] 81 (0, 0)) (by (with_reducible repeat (first | refine blk_drewN ?_ _ | refine blk_drew ?_ | refine blk_alloc ?_ _)); exact BK176.out) hb); have n1_ := Aside0.mk (blk_below (g := gb177) (o := .cells #[.int .i64 a1_0, .int .i64 a1_1] 62 (0, 0)) (by (with_reducible repeat (first | refine blk_drewN ?_ _ | refine blk_drew ?_ | refine blk_alloc ?_ _)); exact BK177.out) hb); have n2_ := Aside0.mk (below_step (by repeat (first | (with_reducible first | exact HB.out | apply below_alloc | apply pw_below_drewN | apply below_drew1 | refine below_set ?_ GE176.out | refine below_set ?_ GE177.out) | exact HB.out)) hb); have n3_ := Aside0.mk (hbox); have n4_ := Aside0.mk ((by rw [hg]; exact (below_size (by repeat (first | (with_reducible first | exact HB.out | apply below_alloc | apply pw_below_drewN | apply below_drew1 | refine below_set ?_ GE176.out | refine below_set ?_ GE177.out) | exact HB.out))) : w.heap.size ≤ gb178)); have n5_ := Aside0.mk ((by rw [hg]; exact (below_size (by repeat (first | (with_reducible first | exact HB.out | apply below_alloc | apply pw_below_drewN | apply below_drew1 | refine below_set ?_ GE176.out | refine below_set ?_ GE177.out) | exact HB.out))) : w.heap.size ≤ gb178)); have n6_ := Aside0.mk ((by rw [hg]; exact Nat.ne_of_lt (blk_lt (g := gb176) (o := .cells #[.int .i64 a0_0, .int .i64 a0_1, .int .i64 a0_2] 81 (0, 0)) (by (with_reducible repeat (first | refine blk_drewN ?_ _ | refine blk_drew ?_ | refine blk_alloc ?_ _)); exact BK176.out)) : gb176 ≠ gb178)); have n7_ := Aside0.mk ((by rw [hg]; exact Nat.ne_of_gt (blk_lt (g := gb176) (o := .cells #[.int .i64 a0_0, .int .i64 a0_1, .int .i64 a0_2] 81 (0, 0)) (by (with_reducible repeat (first | refine blk_drewN ?_ _ | refine blk_drew ?_ | refine blk_alloc ?_ _)); exact BK176.out)) : gb178 ≠ gb176)); have n8_ := Aside0.mk ((by rw [hg]; exact Nat.ne_of_lt (blk_lt (g := gb177) (o := .cells #[.int .i64 a1_0, .int .i64 a1_1] 62 (0, 0)) (by (with_reducible repeat (first | refine blk_drewN ?_ _ | refine blk_drew ?_ | refine blk_alloc ?_ _)); exact BK177.out)) : gb177 ≠ gb178)); have n9_ := Aside0.mk ((by rw [hg]; exact Nat.ne_of_gt (blk_lt (g := gb177) (o := .cells #[.int .i64 a1_0, .int .i64 a1_1] 62 (0, 0)) (by (with_reducible repeat (first | refine blk_drewN ?_ _ | refine blk_drew ?_ | refine blk_alloc ?_ _)); exact BK177.out)) : gb178 ≠ gb177)); clear BK176; clear BK177; clear HB; have BK176 := n0_; have BK177 := n1_; have HB := n2_; have BK178 := n3_; have GW178 := n4_; have GE178 := n5_; have NB176_178 := n6_; have NB178_176 := n7_; have NB177_178 := n8_; have NB178_177 := n9_; clear n0_ n1_ n2_ n3_ n4_ n5_ n6_ n7_ n8_ n9_; clear hb hbox hg; have hnb13 := NB177_176.out; have hnc13 := NB176_177.out; have hnb14 := NB177_178.out; have hnc14 := NB178_177.out; have hcz15_0 : w12.cell? ⟨gb177, 0, none⟩ = some (.int .i64 a1_0) := (blk_cell BK177.out 0).trans rfl; have hcz15_1 : w12.cell? ⟨gb177, 1, none⟩ = some (.int .i64 a1_1) := (blk_cell BK177.out 1).trans rfl; have hfz15_0 := blk_frozen BK177.out 0; have hfz15_1 := blk_frozen BK177.out 1) | ((with_reducible refine gate_callee (f := 108) rfl ?_); refine goesL_ (some 10) rfl rfl Try.func108 (by kernel_rfl) rfl #[.int .i64 a1_0] rfl (by (try simp only [List.map_toArray, List.map_cons, List.map_nil]); first | done | rfl | (simp only [List.length_drop, List.length_take]; rfl)) ?_; (with_reducible refine (impl_cosine.calls k a1_0 t179 _ A4.out).mono ?_); rintro e w' ⟨rfl, ⟨nd, rfl⟩⟩; refine ⟨_, rfl, ?_⟩; (try (rw [drewN_self w12]; generalize hq_ : World.drewN w12 _ = w12; have n0_ : Aside0 (w12.heap[gb176]? = some (.cells #[.int .i64 a0_0, .int .i64 a0_1, .int .i64 a0_2] 81 (0, 0))) := ⟨by rw [← hq_]; exact (by (with_reducible repeat (first | refine blk_drewN ?_ _ | refine blk_drew ?_ | refine blk_alloc ?_ _)); exact BK176.out)⟩; have n1_ : Aside0 (w12.heap[gb177]? = some (.cells #[.int .i64 a1_0, .int .i64 a1_1] 62 (0, 0))) := ⟨by rw [← hq_]; exact (by (with_reducible repeat (first | refine blk_drewN ?_ _ | refine blk_drew ?_ | refine blk_alloc ?_ _)); exact BK177.out)⟩; have n2_ : Aside0 (w12.heap[gb178]? = some (.cells #[.int .i64 0, .int .i64 0, .int .i64 0] 81 (0, 0))) := ⟨by rw [← hq_]; exact (by (with_reducible repeat (first | refine blk_drewN ?_ _ | refine blk_drew ?_ | refine blk_alloc ?_ _)); exact BK178.out)⟩; have n3_ : Aside0 (Below w.heap.size w w12) := ⟨by rw [← hq_]; exact (by repeat (first | (with_reducible first | exact HB.out | apply below_alloc | apply pw_below_drewN | apply below_drew1 | refine below_set ?_ GE176.out | refine below_set ?_ GE177.out | refine below_set ?_ GE178.out) | exact HB.out))⟩; clear BK176 BK177 BK178 HB hq_; have BK176 := n0_; have BK177 := n1_; have BK178 := n2_; have HB := n3_; clear n0_ n1_ n2_ n3_))))
  have n0_ := Aside0.mk (blk_drew BK176.out)
  have n1_ := Aside0.mk (blk_drew BK177.out)
  have n2_ := Aside0.mk (blk_drew BK178.out)
  have n3_ := Aside0.mk (below_drew1 HB.out)
  clear BK176
  clear BK177
  clear BK178
  clear HB
  have BK176 := n0_
  have BK177 := n1_
  have BK178 := n2_
  have HB := n3_
  clear n0_ n1_ n2_ n3_
  refine start_ (n := 13) (S := fun w' => w'.cell? ⟨gb176, 0, none⟩ = some (.int .i64 a0_0) ∧ w'.cell? ⟨gb176, 1, none⟩ = some (.int .i64 a0_1) ∧ w'.cell? ⟨gb176, 2, none⟩ = some (.int .i64 a0_2) ∧ w'.cell? ⟨gb177, 0, none⟩ = some (.int .i64 a1_0) ∧ w'.cell? ⟨gb177, 1, none⟩ = some (.int .i64 a1_1)) (ds := [12]) #[false, false, false, false, false, false, false, false, false, false, false, false, false] (by kernel_rfl) rfl rfl ⟨(blk_cell BK176.out 0).trans rfl, (blk_cell BK176.out 1).trans rfl, (blk_cell BK176.out 2).trans rfl, (blk_cell BK177.out 0).trans rfl, (blk_cell BK177.out 1).trans rfl⟩ (fun hHeld => ?_); refine with_tabW impl_moment_with.tab2 impl_moment_with.bits2 (fun HT_ HW_ => ?_)
  generalize w12.drew = w16 at BK176 BK177 BK178 HB hHeld ⊢
  refine pure_ (i := 0) (N := some 11) (v := ?_) (a' := ?_) #[true, false, false, false, false, false, false, false, false, false, false, false, false] rfl rfl (any_of HT_.out (by kernel_rfl)) (fun _ _ _ h => h) (Or.inl ⟨by rfl, ?_⟩) ?_ ?_
  rotate_left
  · intro w'
    go_simp
    with_reducible rfl
  rotate_left
  · simp only [Act.put, List.setIfInBounds_toArray, List.set_cons_zero, List.set_cons_succ, i64_w, i32_w]
    rfl
  refine pure_ (i := 2) (N := some 13) (v := ?_) (a' := ?_) #[true, false, true, false, false, false, false, false, false, false, false, false, false] rfl rfl (any_of HT_.out (by kernel_rfl)) (fun _ _ _ h => h) (Or.inl ⟨by rfl, ?_⟩) ?_ ?_
  rotate_left
  · intro w'
    go_simp
    with_reducible rfl
  rotate_left
  · simp only [Act.put, List.setIfInBounds_toArray, List.set_cons_zero, List.set_cons_succ, i64_w, i32_w]
    rfl
  refine pure_ (i := 3) (N := some 14) (v := ?_) (a' := ?_) #[true, false, true, true, false, false, false, false, false, false, false, false, false] rfl rfl (any_of HT_.out (by kernel_rfl)) (fun _ _ _ h => h) (Or.inl ⟨by rfl, ?_⟩) ?_ ?_
  rotate_left
  · intro w'
    go_simp
    with_reducible rfl
  rotate_left
  · simp only [Act.put, List.setIfInBounds_toArray, List.set_cons_zero, List.set_cons_succ, i64_w, i32_w]
    rfl
  refine pure_ (i := 4) (N := some 15) (v := ?_) (a' := ?_) #[true, false, true, true, true, false, false, false, false, false, false, false, false] rfl rfl (any_of HT_.out (by kernel_rfl)) (fun _ _ _ h => h) (Or.inl ⟨by rfl, ?_⟩) ?_ ?_
  rotate_left
  · intro w'
    go_simp
    with_reducible rfl
  rotate_left
  · simp only [Act.put, List.setIfInBounds_toArray, List.set_cons_zero, List.set_cons_succ, i64_w, i32_w]
    rfl
  refine take_ (i := 1) (N := some 12) (v := ?_) (a' := ?_) #[true, true, true, true, true, false, false, false, false, false, false, false, false] rfl rfl (take_ofW HT_.out HW_.out (by kernel_rfl)) (fun _ _ _ h => h) (Or.inl ⟨by rfl, ?_⟩) hHeld ?_ ?_
  rotate_left
  · rintro w' ⟨s0, s1, s2, s3, s4⟩
    go_simp
    with_reducible rfl
  rotate_left
  · simp only [Act.put, List.setIfInBounds_toArray, List.set_cons_zero, List.set_cons_succ, i64_w, i32_w]
    rfl
  refine take_ (i := 5) (N := some 16) (v := ?_) (a' := ?_) #[true, true, true, true, true, true, false, false, false, false, false, false, false] rfl rfl (take_ofW HT_.out HW_.out (by kernel_rfl)) (fun _ _ _ h => h) (Or.inl ⟨by rfl, ?_⟩) hHeld ?_ ?_
  rotate_left
  · rintro w' ⟨s0, s1, s2, s3, s4⟩
    go_simp
    with_reducible rfl
  rotate_left
  · simp only [Act.put, List.setIfInBounds_toArray, List.set_cons_zero, List.set_cons_succ, i64_w, i32_w]
    rfl
  refine one_ (i := 6) (N := some 17) #[true, true, true, true, true, true, true, false, false, false, false, false, false] rfl rfl (one_of HT_.out (by kernel_rfl)) (by decide) (fun K hK => ?_)
  refine goes_ Try.func108 (by kernel_rfl) rfl #[.int .i64 a1_1] (by rfl) rfl rfl (by (try simp only [List.map_toArray, List.map_cons, List.map_nil]); first | done | rfl | (simp only [List.length_drop, List.length_take]; rfl)) ?_
  with_reducible refine (impl_cosine.calls k a1_1 t180 _ A5.out).mono ?_
  rintro e w' ⟨rfl, ⟨nd, rfl⟩⟩
  refine ⟨_, rfl, ?_⟩
  refine hK.out _ _ ⟨(blk_cell BK176.out 0).trans rfl, (blk_cell BK176.out 1).trans rfl, (blk_cell BK176.out 2).trans rfl, (blk_cell BK177.out 0).trans rfl, (blk_cell BK177.out 1).trans rfl⟩ (fun hHeld => ?_)
  clear hK K
  refine norm_ (a' := ?_) ?_ ?_
  rotate_left
  · show Act.put _ (some 17) _ = _
    simp only [Act.put, List.setIfInBounds_toArray, List.set_cons_zero, List.set_cons_succ, i64_w, i32_w]
    rfl
  refine pure_ (i := 7) (N := some 18) (v := ?_) (a' := ?_) #[true, true, true, true, true, true, true, true, false, false, false, false, false] rfl rfl (any_of HT_.out (by kernel_rfl)) (fun _ _ _ h => h) (Or.inl ⟨by rfl, ?_⟩) ?_ ?_
  rotate_left
  · intro w'
    go_simp
    with_reducible rfl
  rotate_left
  · simp only [Act.put, List.setIfInBounds_toArray, List.set_cons_zero, List.set_cons_succ, i64_w, i32_w]
    rfl
  refine one_ (i := 8) (N := some 19) #[true, true, true, true, true, true, true, true, true, false, false, false, false] rfl rfl (one_of HT_.out (by kernel_rfl)) (by decide) (fun K hK => ?_)
  refine goes_ Try.func99 (by kernel_rfl) rfl #[.int .i64 (wrap64 (t179 * t180)), .int .i64 1000000] (by rfl) rfl rfl (by (try simp only [List.map_toArray, List.map_cons, List.map_nil]); first | done | rfl | (simp only [List.length_drop, List.length_take]; rfl)) ?_
  with_reducible refine (impl_nearest.calls (wrap64 (t179 * t180)) 1000000 t181 _ A6.out).mono ?_
  rintro e w' ⟨rfl, ⟨nd, rfl⟩⟩
  refine ⟨_, rfl, ?_⟩
  refine hK.out _ _ ⟨(blk_cell BK176.out 0).trans rfl, (blk_cell BK176.out 1).trans rfl, (blk_cell BK176.out 2).trans rfl, (blk_cell BK177.out 0).trans rfl, (blk_cell BK177.out 1).trans rfl⟩ (fun hHeld => ?_)
  clear hK K
  refine norm_ (a' := ?_) ?_ ?_
  rotate_left
  · show Act.put _ (some 19) _ = _
    simp only [Act.put, List.setIfInBounds_toArray, List.set_cons_zero, List.set_cons_succ, i64_w, i32_w]
    rfl
  refine pure_ (i := 9) (N := some 20) (v := ?_) (a' := ?_) #[true, true, true, true, true, true, true, true, true, true, false, false, false] rfl rfl (any_of HT_.out (by kernel_rfl)) (fun _ _ _ h => h) (Or.inl ⟨by rfl, ?_⟩) ?_ ?_
  rotate_left
  · intro w'
    go_simp
    with_reducible rfl
  rotate_left
  · simp only [Act.put, List.setIfInBounds_toArray, List.set_cons_zero, List.set_cons_succ, i64_w, i32_w]
    rfl
  refine pure_ (i := 10) (N := some 21) (v := ?_) (a' := ?_) #[true, true, true, true, true, true, true, true, true, true, true, false, false] rfl rfl (any_of HT_.out (by kernel_rfl)) (fun _ _ _ h => h) (Or.inl ⟨by rfl, ?_⟩) ?_ ?_
  rotate_left
  · intro w'
    go_simp
    with_reducible rfl
  rotate_left
  · simp only [Act.put, List.setIfInBounds_toArray, List.set_cons_zero, List.set_cons_succ, i64_w, i32_w]
    rfl
  refine pure_ (i := 11) (N := some 22) (v := ?_) (a' := ?_) #[true, true, true, true, true, true, true, true, true, true, true, true, false] rfl rfl (any_of HT_.out (by kernel_rfl)) (fun _ _ _ h => h) (Or.inl ⟨by rfl, ?_⟩) ?_ ?_
  rotate_left
  · intro w'
    go_simp
    with_reducible rfl
  rotate_left
  · simp only [Act.put, List.setIfInBounds_toArray, List.set_cons_zero, List.set_cons_succ, i64_w, i32_w]
    rfl
  repeat ((generalize hq_ : World.drewN w16 _ = w16; have hh_ := congrArg World.heap hq_; simp only [World.heap_drewN] at hh_; rw [hh_] at BK176 BK177 BK178; have n3_ : Aside0 (Below w.heap.size w w16) := ⟨by rw [← hq_]; exact pw_below_drewN HB.out _⟩; clear HB hh_ hq_; have HB := n3_; clear n3_))
  refine last_ (i := 12) (N := none) #[true, true, true, true, true, true, true, true, true, true, true, true, true] rfl rfl (one_of HT_.out (by kernel_rfl)) (by decide) (fun K hK => ?_)
  have hs17 : w16.cell? ⟨gb176, 0, none⟩ = some (.int .i64 a0_0) := (blk_cell BK176.out 0).trans rfl
  have hfs17 := blk_frozen BK176.out 0
  have hns17_1 := NB177_176.out
  have hns17_2 := NB178_176.out
  have hms17_1 := NB176_177.out
  have hms17_2 := NB176_178.out
  refine skip_ (w1 := ?_) (by rfl) rfl ?_ ?_
  rotate_left
  · go_simp
    rfl
  refine hK.out _ _ ?_
  clear hK K
  refine done_ (done_of HT_.out (by kernel_rfl)) ?_
  try go_wp2
  have n0_ : Aside0 ((w16.setCell ⟨gb176, 0, none⟩ (.int .i64 (wrap64 (a0_0 + (wrap64 (a2 * t181)))))).heap[gb176]? = some (.cells #[.int .i64 (wrap64 (a0_0 + (wrap64 (a2 * t181)))), .int .i64 a0_1, .int .i64 a0_2] 81 (0, 0))) := ⟨by (with_reducible repeat (first | refine blk_drewN ?_ _ | refine blk_drew ?_ | refine blk_alloc ?_ _)); refine blk_put (cs := #[.int .i64 a0_0, .int .i64 a0_1, .int .i64 a0_2]) ?_ 0 _ rfl; (with_reducible repeat (first | refine blk_drewN ?_ _ | refine blk_drew ?_ | refine blk_alloc ?_ _)); exact BK176.out⟩
  have n1_ : Aside0 ((w16.setCell ⟨gb176, 0, none⟩ (.int .i64 (wrap64 (a0_0 + (wrap64 (a2 * t181)))))).heap[gb177]? = some (.cells #[.int .i64 a1_0, .int .i64 a1_1] 62 (0, 0))) := ⟨by (with_reducible repeat (first | refine blk_drewN ?_ _ | refine blk_drew ?_ | refine blk_alloc ?_ _)); refine blk_far ?_ NB177_176.out _; (with_reducible repeat (first | refine blk_drewN ?_ _ | refine blk_drew ?_ | refine blk_alloc ?_ _)); exact BK177.out⟩
  have n2_ : Aside0 ((w16.setCell ⟨gb176, 0, none⟩ (.int .i64 (wrap64 (a0_0 + (wrap64 (a2 * t181)))))).heap[gb178]? = some (.cells #[.int .i64 0, .int .i64 0, .int .i64 0] 81 (0, 0))) := ⟨by (with_reducible repeat (first | refine blk_drewN ?_ _ | refine blk_drew ?_ | refine blk_alloc ?_ _)); refine blk_far ?_ NB178_176.out _; (with_reducible repeat (first | refine blk_drewN ?_ _ | refine blk_drew ?_ | refine blk_alloc ?_ _)); exact BK178.out⟩
  have n3_ : Aside0 (Below w.heap.size w (w16.setCell ⟨gb176, 0, none⟩ (.int .i64 (wrap64 (a0_0 + (wrap64 (a2 * t181))))))) := ⟨by repeat (first | (with_reducible first | exact HB.out | apply below_alloc | apply pw_below_drewN | apply below_drew1 | refine below_set ?_ GE176.out | refine below_set ?_ GE177.out | refine below_set ?_ GE178.out) | exact HB.out)⟩
  (try clear BK176)
  (try clear BK177)
  (try clear BK178)
  (try clear HB)
  generalize (w16.setCell ⟨gb176, 0, none⟩ (.int .i64 (wrap64 (a0_0 + (wrap64 (a2 * t181)))))) = w18 at n0_ n1_ n2_ n3_ ⊢
  have BK176 := n0_
  have BK177 := n1_
  have BK178 := n2_
  have HB := n3_
  clear n0_ n1_ n2_ n3_
  (try (rw [drewN_self w18]; generalize hq_ : World.drewN w18 _ = w18; have n0_ : Aside0 (w18.heap[gb176]? = some (.cells #[.int .i64 (wrap64 (a0_0 + (wrap64 (a2 * t181)))), .int .i64 a0_1, .int .i64 a0_2] 81 (0, 0))) := ⟨by rw [← hq_]; exact (by (with_reducible repeat (first | refine blk_drewN ?_ _ | refine blk_drew ?_ | refine blk_alloc ?_ _)); exact BK176.out)⟩; have n1_ : Aside0 (w18.heap[gb177]? = some (.cells #[.int .i64 a1_0, .int .i64 a1_1] 62 (0, 0))) := ⟨by rw [← hq_]; exact (by (with_reducible repeat (first | refine blk_drewN ?_ _ | refine blk_drew ?_ | refine blk_alloc ?_ _)); exact BK177.out)⟩; have n2_ : Aside0 (w18.heap[gb178]? = some (.cells #[.int .i64 0, .int .i64 0, .int .i64 0] 81 (0, 0))) := ⟨by rw [← hq_]; exact (by (with_reducible repeat (first | refine blk_drewN ?_ _ | refine blk_drew ?_ | refine blk_alloc ?_ _)); exact BK178.out)⟩; have n3_ : Aside0 (Below w.heap.size w w18) := ⟨by rw [← hq_]; exact (by repeat (first | (with_reducible first | exact HB.out | apply below_alloc | apply pw_below_drewN | apply below_drew1 | refine below_set ?_ GE176.out | refine below_set ?_ GE177.out | refine below_set ?_ GE178.out) | exact HB.out))⟩; clear BK176 BK177 BK178 HB hq_; have BK176 := n0_; have BK177 := n1_; have BK178 := n2_; have HB := n3_; clear n0_ n1_ n2_ n3_))
  have n0_ := Aside0.mk (blk_drew BK176.out)
  have n1_ := Aside0.mk (blk_drew BK177.out)
  have n2_ := Aside0.mk (blk_drew BK178.out)
  have n3_ := Aside0.mk (below_drew1 HB.out)
  clear BK176
  clear BK177
  clear BK178
  clear HB
  have BK176 := n0_
  have BK177 := n1_
  have BK178 := n2_
  have HB := n3_
  clear n0_ n1_ n2_ n3_
  refine start_ (n := 13) (S := fun w' => w'.cell? ⟨gb176, 0, none⟩ = some (.int .i64 (wrap64 (a0_0 + (wrap64 (a2 * t181))))) ∧ w'.cell? ⟨gb176, 1, none⟩ = some (.int .i64 a0_1) ∧ w'.cell? ⟨gb176, 2, none⟩ = some (.int .i64 a0_2) ∧ w'.cell? ⟨gb177, 0, none⟩ = some (.int .i64 a1_0) ∧ w'.cell? ⟨gb177, 1, none⟩ = some (.int .i64 a1_1)) (ds := [12]) #[false, false, false, false, false, false, false, false, false, false, false, false, false] (by kernel_rfl) rfl rfl ⟨(blk_cell BK176.out 0).trans rfl, (blk_cell BK176.out 1).trans rfl, (blk_cell BK176.out 2).trans rfl, (blk_cell BK177.out 0).trans rfl, (blk_cell BK177.out 1).trans rfl⟩ (fun hHeld => ?_); refine with_tabW impl_moment_with.tab3 impl_moment_with.bits3 (fun HT_ HW_ => ?_)
  generalize w18.drew = w19 at BK176 BK177 BK178 HB hHeld ⊢
  refine pure_ (i := 0) (N := some 23) (v := ?_) (a' := ?_) #[true, false, false, false, false, false, false, false, false, false, false, false, false] rfl rfl (any_of HT_.out (by kernel_rfl)) (fun _ _ _ h => h) (Or.inl ⟨by rfl, ?_⟩) ?_ ?_
  rotate_left
  · intro w'
    go_simp
    with_reducible rfl
  rotate_left
  · simp only [Act.put, List.setIfInBounds_toArray, List.set_cons_zero, List.set_cons_succ, i64_w, i32_w]
    rfl
  refine pure_ (i := 2) (N := some 25) (v := ?_) (a' := ?_) #[true, false, true, false, false, false, false, false, false, false, false, false, false] rfl rfl (any_of HT_.out (by kernel_rfl)) (fun _ _ _ h => h) (Or.inl ⟨by rfl, ?_⟩) ?_ ?_
  rotate_left
  · intro w'
    go_simp
    with_reducible rfl
  rotate_left
  · simp only [Act.put, List.setIfInBounds_toArray, List.set_cons_zero, List.set_cons_succ, i64_w, i32_w]
    rfl
  refine pure_ (i := 3) (N := some 26) (v := ?_) (a' := ?_) #[true, false, true, true, false, false, false, false, false, false, false, false, false] rfl rfl (any_of HT_.out (by kernel_rfl)) (fun _ _ _ h => h) (Or.inl ⟨by rfl, ?_⟩) ?_ ?_
  rotate_left
  · intro w'
    go_simp
    with_reducible rfl
  rotate_left
  · simp only [Act.put, List.setIfInBounds_toArray, List.set_cons_zero, List.set_cons_succ, i64_w, i32_w]
    rfl
  refine pure_ (i := 4) (N := some 27) (v := ?_) (a' := ?_) #[true, false, true, true, true, false, false, false, false, false, false, false, false] rfl rfl (any_of HT_.out (by kernel_rfl)) (fun _ _ _ h => h) (Or.inl ⟨by rfl, ?_⟩) ?_ ?_
  rotate_left
  · intro w'
    go_simp
    with_reducible rfl
  rotate_left
  · simp only [Act.put, List.setIfInBounds_toArray, List.set_cons_zero, List.set_cons_succ, i64_w, i32_w]
    rfl
  refine take_ (i := 1) (N := some 24) (v := ?_) (a' := ?_) #[true, true, true, true, true, false, false, false, false, false, false, false, false] rfl rfl (take_ofW HT_.out HW_.out (by kernel_rfl)) (fun _ _ _ h => h) (Or.inl ⟨by rfl, ?_⟩) hHeld ?_ ?_
  rotate_left
  · rintro w' ⟨s0, s1, s2, s3, s4⟩
    go_simp
    with_reducible rfl
  rotate_left
  · simp only [Act.put, List.setIfInBounds_toArray, List.set_cons_zero, List.set_cons_succ, i64_w, i32_w]
    rfl
  refine take_ (i := 5) (N := some 28) (v := ?_) (a' := ?_) #[true, true, true, true, true, true, false, false, false, false, false, false, false] rfl rfl (take_ofW HT_.out HW_.out (by kernel_rfl)) (fun _ _ _ h => h) (Or.inl ⟨by rfl, ?_⟩) hHeld ?_ ?_
  rotate_left
  · rintro w' ⟨s0, s1, s2, s3, s4⟩
    go_simp
    with_reducible rfl
  rotate_left
  · simp only [Act.put, List.setIfInBounds_toArray, List.set_cons_zero, List.set_cons_succ, i64_w, i32_w]
    rfl
  refine one_ (i := 6) (N := some 29) #[true, true, true, true, true, true, true, false, false, false, false, false, false] rfl rfl (one_of HT_.out (by kernel_rfl)) (by decide) (fun K hK => ?_)
  refine goes_ Try.func109 (by kernel_rfl) rfl #[.int .i64 a1_1] (by rfl) rfl rfl (by (try simp only [List.map_toArray, List.map_cons, List.map_nil]); first | done | rfl | (simp only [List.length_drop, List.length_take]; rfl)) ?_
  with_reducible refine (impl_sine.calls k a1_1 t182 _ A7.out).mono ?_
  rintro e w' ⟨rfl, ⟨nd, rfl⟩⟩
  refine ⟨_, rfl, ?_⟩
  refine hK.out _ _ ⟨(blk_cell BK176.out 0).trans rfl, (blk_cell BK176.out 1).trans rfl, (blk_cell BK176.out 2).trans rfl, (blk_cell BK177.out 0).trans rfl, (blk_cell BK177.out 1).trans rfl⟩ (fun hHeld => ?_)
  clear hK K
  refine norm_ (a' := ?_) ?_ ?_
  rotate_left
  · show Act.put _ (some 29) _ = _
    simp only [Act.put, List.setIfInBounds_toArray, List.set_cons_zero, List.set_cons_succ, i64_w, i32_w]
    rfl
  refine pure_ (i := 7) (N := some 30) (v := ?_) (a' := ?_) #[true, true, true, true, true, true, true, true, false, false, false, false, false] rfl rfl (any_of HT_.out (by kernel_rfl)) (fun _ _ _ h => h) (Or.inl ⟨by rfl, ?_⟩) ?_ ?_
  rotate_left
  · intro w'
    go_simp
    with_reducible rfl
  rotate_left
  · simp only [Act.put, List.setIfInBounds_toArray, List.set_cons_zero, List.set_cons_succ, i64_w, i32_w]
    rfl
  refine one_ (i := 8) (N := some 31) #[true, true, true, true, true, true, true, true, true, false, false, false, false] rfl rfl (one_of HT_.out (by kernel_rfl)) (by decide) (fun K hK => ?_)
  refine goes_ Try.func99 (by kernel_rfl) rfl #[.int .i64 (wrap64 (t179 * t182)), .int .i64 1000000] (by rfl) rfl rfl (by (try simp only [List.map_toArray, List.map_cons, List.map_nil]); first | done | rfl | (simp only [List.length_drop, List.length_take]; rfl)) ?_
  with_reducible refine (impl_nearest.calls (wrap64 (t179 * t182)) 1000000 t183 _ A8.out).mono ?_
  rintro e w' ⟨rfl, ⟨nd, rfl⟩⟩
  refine ⟨_, rfl, ?_⟩
  refine hK.out _ _ ⟨(blk_cell BK176.out 0).trans rfl, (blk_cell BK176.out 1).trans rfl, (blk_cell BK176.out 2).trans rfl, (blk_cell BK177.out 0).trans rfl, (blk_cell BK177.out 1).trans rfl⟩ (fun hHeld => ?_)
  clear hK K
  refine norm_ (a' := ?_) ?_ ?_
  rotate_left
  · show Act.put _ (some 31) _ = _
    simp only [Act.put, List.setIfInBounds_toArray, List.set_cons_zero, List.set_cons_succ, i64_w, i32_w]
    rfl
  refine pure_ (i := 9) (N := some 32) (v := ?_) (a' := ?_) #[true, true, true, true, true, true, true, true, true, true, false, false, false] rfl rfl (any_of HT_.out (by kernel_rfl)) (fun _ _ _ h => h) (Or.inl ⟨by rfl, ?_⟩) ?_ ?_
  rotate_left
  · intro w'
    go_simp
    with_reducible rfl
  rotate_left
  · simp only [Act.put, List.setIfInBounds_toArray, List.set_cons_zero, List.set_cons_succ, i64_w, i32_w]
    rfl
  refine pure_ (i := 10) (N := some 33) (v := ?_) (a' := ?_) #[true, true, true, true, true, true, true, true, true, true, true, false, false] rfl rfl (any_of HT_.out (by kernel_rfl)) (fun _ _ _ h => h) (Or.inl ⟨by rfl, ?_⟩) ?_ ?_
  rotate_left
  · intro w'
    go_simp
    with_reducible rfl
  rotate_left
  · simp only [Act.put, List.setIfInBounds_toArray, List.set_cons_zero, List.set_cons_succ, i64_w, i32_w]
    rfl
  refine pure_ (i := 11) (N := some 34) (v := ?_) (a' := ?_) #[true, true, true, true, true, true, true, true, true, true, true, true, false] rfl rfl (any_of HT_.out (by kernel_rfl)) (fun _ _ _ h => h) (Or.inl ⟨by rfl, ?_⟩) ?_ ?_
  rotate_left
  · intro w'
    go_simp
    with_reducible rfl
  rotate_left
  · simp only [Act.put, List.setIfInBounds_toArray, List.set_cons_zero, List.set_cons_succ, i64_w, i32_w]
    rfl
  repeat ((generalize hq_ : World.drewN w19 _ = w19; have hh_ := congrArg World.heap hq_; simp only [World.heap_drewN] at hh_; rw [hh_] at BK176 BK177 BK178; have n3_ : Aside0 (Below w.heap.size w w19) := ⟨by rw [← hq_]; exact pw_below_drewN HB.out _⟩; clear HB hh_ hq_; have HB := n3_; clear n3_))
  refine last_ (i := 12) (N := none) #[true, true, true, true, true, true, true, true, true, true, true, true, true] rfl rfl (one_of HT_.out (by kernel_rfl)) (by decide) (fun K hK => ?_)
  have hs20 : w19.cell? ⟨gb176, 1, none⟩ = some (.int .i64 a0_1) := (blk_cell BK176.out 1).trans rfl
  have hfs20 := blk_frozen BK176.out 1
  have hns20_1 := NB177_176.out
  have hns20_2 := NB178_176.out
  have hms20_1 := NB176_177.out
  have hms20_2 := NB176_178.out
  refine skip_ (w1 := ?_) (by rfl) rfl ?_ ?_
  rotate_left
  · go_simp
    rfl
  refine hK.out _ _ ?_
  clear hK K
  refine done_ (done_of HT_.out (by kernel_rfl)) ?_
  try go_wp2
  have n0_ : Aside0 ((w19.setCell ⟨gb176, 1, none⟩ (.int .i64 (wrap64 (a0_1 + (wrap64 (a2 * t183)))))).heap[gb176]? = some (.cells #[.int .i64 (wrap64 (a0_0 + (wrap64 (a2 * t181)))), .int .i64 (wrap64 (a0_1 + (wrap64 (a2 * t183)))), .int .i64 a0_2] 81 (0, 0))) := ⟨by (with_reducible repeat (first | refine blk_drewN ?_ _ | refine blk_drew ?_ | refine blk_alloc ?_ _)); refine blk_put (cs := #[.int .i64 (wrap64 (a0_0 + (wrap64 (a2 * t181)))), .int .i64 a0_1, .int .i64 a0_2]) ?_ 1 _ rfl; (with_reducible repeat (first | refine blk_drewN ?_ _ | refine blk_drew ?_ | refine blk_alloc ?_ _)); exact BK176.out⟩
  have n1_ : Aside0 ((w19.setCell ⟨gb176, 1, none⟩ (.int .i64 (wrap64 (a0_1 + (wrap64 (a2 * t183)))))).heap[gb177]? = some (.cells #[.int .i64 a1_0, .int .i64 a1_1] 62 (0, 0))) := ⟨by (with_reducible repeat (first | refine blk_drewN ?_ _ | refine blk_drew ?_ | refine blk_alloc ?_ _)); refine blk_far ?_ NB177_176.out _; (with_reducible repeat (first | refine blk_drewN ?_ _ | refine blk_drew ?_ | refine blk_alloc ?_ _)); exact BK177.out⟩
  have n2_ : Aside0 ((w19.setCell ⟨gb176, 1, none⟩ (.int .i64 (wrap64 (a0_1 + (wrap64 (a2 * t183)))))).heap[gb178]? = some (.cells #[.int .i64 0, .int .i64 0, .int .i64 0] 81 (0, 0))) := ⟨by (with_reducible repeat (first | refine blk_drewN ?_ _ | refine blk_drew ?_ | refine blk_alloc ?_ _)); refine blk_far ?_ NB178_176.out _; (with_reducible repeat (first | refine blk_drewN ?_ _ | refine blk_drew ?_ | refine blk_alloc ?_ _)); exact BK178.out⟩
  have n3_ : Aside0 (Below w.heap.size w (w19.setCell ⟨gb176, 1, none⟩ (.int .i64 (wrap64 (a0_1 + (wrap64 (a2 * t183))))))) := ⟨by repeat (first | (with_reducible first | exact HB.out | apply below_alloc | apply pw_below_drewN | apply below_drew1 | refine below_set ?_ GE176.out | refine below_set ?_ GE177.out | refine below_set ?_ GE178.out) | exact HB.out)⟩
  (try clear BK176)
  (try clear BK177)
  (try clear BK178)
  (try clear HB)
  generalize (w19.setCell ⟨gb176, 1, none⟩ (.int .i64 (wrap64 (a0_1 + (wrap64 (a2 * t183)))))) = w21 at n0_ n1_ n2_ n3_ ⊢
  have BK176 := n0_
  have BK177 := n1_
  have BK178 := n2_
  have HB := n3_
  clear n0_ n1_ n2_ n3_
  (try (rw [drewN_self w21]; generalize hq_ : World.drewN w21 _ = w21; have n0_ : Aside0 (w21.heap[gb176]? = some (.cells #[.int .i64 (wrap64 (a0_0 + (wrap64 (a2 * t181)))), .int .i64 (wrap64 (a0_1 + (wrap64 (a2 * t183)))), .int .i64 a0_2] 81 (0, 0))) := ⟨by rw [← hq_]; exact (by (with_reducible repeat (first | refine blk_drewN ?_ _ | refine blk_drew ?_ | refine blk_alloc ?_ _)); exact BK176.out)⟩; have n1_ : Aside0 (w21.heap[gb177]? = some (.cells #[.int .i64 a1_0, .int .i64 a1_1] 62 (0, 0))) := ⟨by rw [← hq_]; exact (by (with_reducible repeat (first | refine blk_drewN ?_ _ | refine blk_drew ?_ | refine blk_alloc ?_ _)); exact BK177.out)⟩; have n2_ : Aside0 (w21.heap[gb178]? = some (.cells #[.int .i64 0, .int .i64 0, .int .i64 0] 81 (0, 0))) := ⟨by rw [← hq_]; exact (by (with_reducible repeat (first | refine blk_drewN ?_ _ | refine blk_drew ?_ | refine blk_alloc ?_ _)); exact BK178.out)⟩; have n3_ : Aside0 (Below w.heap.size w w21) := ⟨by rw [← hq_]; exact (by repeat (first | (with_reducible first | exact HB.out | apply below_alloc | apply pw_below_drewN | apply below_drew1 | refine below_set ?_ GE176.out | refine below_set ?_ GE177.out | refine below_set ?_ GE178.out) | exact HB.out))⟩; clear BK176 BK177 BK178 HB hq_; have BK176 := n0_; have BK177 := n1_; have BK178 := n2_; have HB := n3_; clear n0_ n1_ n2_ n3_))
  have n0_ := Aside0.mk (blk_drew BK176.out)
  have n1_ := Aside0.mk (blk_drew BK177.out)
  have n2_ := Aside0.mk (blk_drew BK178.out)
  have n3_ := Aside0.mk (below_drew1 HB.out)
  clear BK176
  clear BK177
  clear BK178
  clear HB
  have BK176 := n0_
  have BK177 := n1_
  have BK178 := n2_
  have HB := n3_
  clear n0_ n1_ n2_ n3_
  refine start_ (n := 10) (S := fun w' => w'.cell? ⟨gb176, 0, none⟩ = some (.int .i64 (wrap64 (a0_0 + (wrap64 (a2 * t181))))) ∧ w'.cell? ⟨gb176, 1, none⟩ = some (.int .i64 (wrap64 (a0_1 + (wrap64 (a2 * t183))))) ∧ w'.cell? ⟨gb176, 2, none⟩ = some (.int .i64 a0_2) ∧ w'.cell? ⟨gb177, 0, none⟩ = some (.int .i64 a1_0) ∧ w'.cell? ⟨gb177, 1, none⟩ = some (.int .i64 a1_1)) (ds := [9]) #[false, false, false, false, false, false, false, false, false, false] (by kernel_rfl) rfl rfl ⟨(blk_cell BK176.out 0).trans rfl, (blk_cell BK176.out 1).trans rfl, (blk_cell BK176.out 2).trans rfl, (blk_cell BK177.out 0).trans rfl, (blk_cell BK177.out 1).trans rfl⟩ (fun hHeld => ?_); refine with_tabW impl_moment_with.tab4 impl_moment_with.bits4 (fun HT_ HW_ => ?_)
  generalize w21.drew = w22 at BK176 BK177 BK178 HB hHeld ⊢
  refine pure_ (i := 0) (N := some 35) (v := ?_) (a' := ?_) #[true, false, false, false, false, false, false, false, false, false] rfl rfl (any_of HT_.out (by kernel_rfl)) (fun _ _ _ h => h) (Or.inl ⟨by rfl, ?_⟩) ?_ ?_
  rotate_left
  · intro w'
    go_simp
    with_reducible rfl
  rotate_left
  · simp only [Act.put, List.setIfInBounds_toArray, List.set_cons_zero, List.set_cons_succ, i64_w, i32_w]
    rfl
  refine pure_ (i := 2) (N := some 37) (v := ?_) (a' := ?_) #[true, false, true, false, false, false, false, false, false, false] rfl rfl (any_of HT_.out (by kernel_rfl)) (fun _ _ _ h => h) (Or.inl ⟨by rfl, ?_⟩) ?_ ?_
  rotate_left
  · intro w'
    go_simp
    with_reducible rfl
  rotate_left
  · simp only [Act.put, List.setIfInBounds_toArray, List.set_cons_zero, List.set_cons_succ, i64_w, i32_w]
    rfl
  refine pure_ (i := 3) (N := some 38) (v := ?_) (a' := ?_) #[true, false, true, true, false, false, false, false, false, false] rfl rfl (any_of HT_.out (by kernel_rfl)) (fun _ _ _ h => h) (Or.inl ⟨by rfl, ?_⟩) ?_ ?_
  rotate_left
  · intro w'
    go_simp
    with_reducible rfl
  rotate_left
  · simp only [Act.put, List.setIfInBounds_toArray, List.set_cons_zero, List.set_cons_succ, i64_w, i32_w]
    rfl
  refine take_ (i := 1) (N := some 36) (v := ?_) (a' := ?_) #[true, true, true, true, false, false, false, false, false, false] rfl rfl (take_ofW HT_.out HW_.out (by kernel_rfl)) (fun _ _ _ h => h) (Or.inl ⟨by rfl, ?_⟩) hHeld ?_ ?_
  rotate_left
  · rintro w' ⟨s0, s1, s2, s3, s4⟩
    go_simp
    with_reducible rfl
  rotate_left
  · simp only [Act.put, List.setIfInBounds_toArray, List.set_cons_zero, List.set_cons_succ, i64_w, i32_w]
    rfl
  refine take_ (i := 4) (N := some 39) (v := ?_) (a' := ?_) #[true, true, true, true, true, false, false, false, false, false] rfl rfl (take_ofW HT_.out HW_.out (by kernel_rfl)) (fun _ _ _ h => h) (Or.inl ⟨by rfl, ?_⟩) hHeld ?_ ?_
  rotate_left
  · rintro w' ⟨s0, s1, s2, s3, s4⟩
    go_simp
    with_reducible rfl
  rotate_left
  · simp only [Act.put, List.setIfInBounds_toArray, List.set_cons_zero, List.set_cons_succ, i64_w, i32_w]
    rfl
  refine one_ (i := 5) (N := some 40) #[true, true, true, true, true, true, false, false, false, false] rfl rfl (one_of HT_.out (by kernel_rfl)) (by decide) (fun K hK => ?_)
  refine goes_ Try.func109 (by kernel_rfl) rfl #[.int .i64 a1_0] (by rfl) rfl rfl (by (try simp only [List.map_toArray, List.map_cons, List.map_nil]); first | done | rfl | (simp only [List.length_drop, List.length_take]; rfl)) ?_
  with_reducible refine (impl_sine.calls k a1_0 t184 _ A9.out).mono ?_
  rintro e w' ⟨rfl, ⟨nd, rfl⟩⟩
  refine ⟨_, rfl, ?_⟩
  refine hK.out _ _ ⟨(blk_cell BK176.out 0).trans rfl, (blk_cell BK176.out 1).trans rfl, (blk_cell BK176.out 2).trans rfl, (blk_cell BK177.out 0).trans rfl, (blk_cell BK177.out 1).trans rfl⟩ (fun hHeld => ?_)
  clear hK K
  refine norm_ (a' := ?_) ?_ ?_
  rotate_left
  · show Act.put _ (some 40) _ = _
    simp only [Act.put, List.setIfInBounds_toArray, List.set_cons_zero, List.set_cons_succ, i64_w, i32_w]
    rfl
  refine pure_ (i := 6) (N := some 41) (v := ?_) (a' := ?_) #[true, true, true, true, true, true, true, false, false, false] rfl rfl (any_of HT_.out (by kernel_rfl)) (fun _ _ _ h => h) (Or.inl ⟨by rfl, ?_⟩) ?_ ?_
  rotate_left
  · intro w'
    go_simp
    with_reducible rfl
  rotate_left
  · simp only [Act.put, List.setIfInBounds_toArray, List.set_cons_zero, List.set_cons_succ, i64_w, i32_w]
    rfl
  refine pure_ (i := 7) (N := some 42) (v := ?_) (a' := ?_) #[true, true, true, true, true, true, true, true, false, false] rfl rfl (any_of HT_.out (by kernel_rfl)) (fun _ _ _ h => h) (Or.inl ⟨by rfl, ?_⟩) ?_ ?_
  rotate_left
  · intro w'
    go_simp
    with_reducible rfl
  rotate_left
  · simp only [Act.put, List.setIfInBounds_toArray, List.set_cons_zero, List.set_cons_succ, i64_w, i32_w]
    rfl
  refine pure_ (i := 8) (N := some 43) (v := ?_) (a' := ?_) #[true, true, true, true, true, true, true, true, true, false] rfl rfl (any_of HT_.out (by kernel_rfl)) (fun _ _ _ h => h) (Or.inl ⟨by rfl, ?_⟩) ?_ ?_
  rotate_left
  · intro w'
    go_simp
    with_reducible rfl
  rotate_left
  · simp only [Act.put, List.setIfInBounds_toArray, List.set_cons_zero, List.set_cons_succ, i64_w, i32_w]
    rfl
  repeat ((generalize hq_ : World.drewN w22 _ = w22; have hh_ := congrArg World.heap hq_; simp only [World.heap_drewN] at hh_; rw [hh_] at BK176 BK177 BK178; have n3_ : Aside0 (Below w.heap.size w w22) := ⟨by rw [← hq_]; exact pw_below_drewN HB.out _⟩; clear HB hh_ hq_; have HB := n3_; clear n3_))
  refine last_ (i := 9) (N := none) #[true, true, true, true, true, true, true, true, true, true] rfl rfl (one_of HT_.out (by kernel_rfl)) (by decide) (fun K hK => ?_)
  have hs23 : w22.cell? ⟨gb176, 2, none⟩ = some (.int .i64 a0_2) := (blk_cell BK176.out 2).trans rfl
  have hfs23 := blk_frozen BK176.out 2
  have hns23_1 := NB177_176.out
  have hns23_2 := NB178_176.out
  have hms23_1 := NB176_177.out
  have hms23_2 := NB176_178.out
  refine skip_ (w1 := ?_) (by rfl) rfl ?_ ?_
  rotate_left
  · go_simp
    rfl
  refine hK.out _ _ ?_
  clear hK K
  refine done_ (done_of HT_.out (by kernel_rfl)) ?_
  have hnb24 := NB176_178.out
  have hnc24 := NB178_176.out
  have hcz25_0 : w22.cell? ⟨gb176, 0, none⟩ = some (.int .i64 (wrap64 (a0_0 + (wrap64 (a2 * t181))))) := (blk_cell BK176.out 0).trans rfl
  have hcz25_1 : w22.cell? ⟨gb176, 1, none⟩ = some (.int .i64 (wrap64 (a0_1 + (wrap64 (a2 * t183))))) := (blk_cell BK176.out 1).trans rfl
  have hcz25_2 : w22.cell? ⟨gb176, 2, none⟩ = some (.int .i64 a0_2) := (blk_cell BK176.out 2).trans rfl
  have hfz25_0 := blk_frozen BK176.out 0
  have hfz25_1 := blk_frozen BK176.out 1
  have hfz25_2 := blk_frozen BK176.out 2
  have hcz26_0 : w22.cell? ⟨gb178, 0, none⟩ = some (.int .i64 0) := (blk_cell BK178.out 0).trans rfl
  have hcz26_1 : w22.cell? ⟨gb178, 1, none⟩ = some (.int .i64 0) := (blk_cell BK178.out 1).trans rfl
  have hcz26_2 : w22.cell? ⟨gb178, 2, none⟩ = some (.int .i64 0) := (blk_cell BK178.out 2).trans rfl
  have hfz26_0 := blk_frozen BK178.out 0
  have hfz26_1 := blk_frozen BK178.out 1
  have hfz26_2 := blk_frozen BK178.out 2
  try go_wp2
  refine bodyPost_ret (results_cell_row rfl _ _ gb178 81 #[.int .i64 (wrap64 (a0_0 + (wrap64 (a2 * t181)))), .int .i64 (wrap64 (a0_1 + (wrap64 (a2 * t183)))), .int .i64 (wrap64 (a0_2 + (wrap64 (a2 * t184))))] (0, 0) _ rfl (by (with_reducible repeat (first | refine blk_drewN ?_ _ | refine blk_drew ?_ | refine blk_alloc ?_ _)); refine blk_put (cs := #[.int .i64 (wrap64 (a0_0 + (wrap64 (a2 * t181)))), .int .i64 (wrap64 (a0_1 + (wrap64 (a2 * t183)))), .int .i64 0]) ?_ 2 _ rfl; (with_reducible repeat (first | refine blk_drewN ?_ _ | refine blk_drew ?_ | refine blk_alloc ?_ _)); refine blk_put (cs := #[.int .i64 (wrap64 (a0_0 + (wrap64 (a2 * t181)))), .int .i64 0, .int .i64 0]) ?_ 1 _ rfl; (with_reducible repeat (first | refine blk_drewN ?_ _ | refine blk_drew ?_ | refine blk_alloc ?_ _)); refine blk_put (cs := #[.int .i64 0, .int .i64 0, .int .i64 0]) ?_ 0 _ rfl; (with_reducible repeat (first | refine blk_drewN ?_ _ | refine blk_drew ?_ | refine blk_alloc ?_ _)); refine blk_far ?_ NB178_176.out _; (with_reducible repeat (first | refine blk_drewN ?_ _ | refine blk_drew ?_ | refine blk_alloc ?_ _)); exact BK178.out) Try.underlying81 rfl (by kernel_rfl)) rfl ?_
  exact ⟨by first | rfl | (simp [errW_none, errW_some] <;> rfl) | (simp [*, errW_none, errW_some] <;> rfl), by repeat (first | (with_reducible first | exact HB.out | apply below_alloc | apply pw_below_drewN | apply below_drew1 | refine below_set ?_ GE176.out | refine below_set ?_ GE177.out | refine below_set ?_ GE178.out) | exact HB.out)⟩

/-! ### impl_momentOf: function 85 -/
def impl_momentOf.l0 : Nat → List (S64) → Int → Int → Int → Int → Int → Option (Int × Int × Int)
  | 0, _, _, _, _, _, _ => none
  | k + 1, x7, x8, x9, x187000, x187001, x187002 => if x9 < x8 then (if 0 ≤ x9 then (if x9 < (x7.length : Int) then ((impl_moment_with.f k x187000 x187001 x187002 ((rd_T64 x7 x9).f1.f0) ((rd_T64 x7 x9).f1.f1) ((rd_T64 x7 x9).f0)).bind fun bt189 => (impl_momentOf.l0 k x7 x8 (wrap64 (x9 + 1)) bt189.1 bt189.2.1 bt189.2.2)) else (none)) else (none)) else (some (x187000, x187001, x187002))
def impl_momentOf.f (k : Nat) (l0 : List (S64)) : Option (Int × Int × Int) := impl_momentOf.l0 k l0 (l0.length : Int) 0 0 0 0
theorem impl_momentOf.mono_l : ∀ k, (∀ y0 y1 y2 y3 y4 y5, LeO (impl_momentOf.l0 k y0 y1 y2 y3 y4 y5) (impl_momentOf.l0 (k + 1) y0 y1 y2 y3 y4 y5))
  | 0 => fun _ _ _ _ _ _ r h => by simp [impl_momentOf.l0] at h
  | k + 1 => by
    have ih0 := impl_momentOf.mono_l k
    · intro y0 y1 y2 y3 y4 y5
      unfold impl_momentOf.l0
      repeat' first
      | (with_reducible exact ih0 _ _ _ _ _ _)
      | (with_reducible exact impl_moment_with.mono _ _ _ _ _ _ _)
      | (with_reducible exact LeO.refl _)
      | (with_reducible exact LeO.none _)
      | (with_reducible refine LeO.ite ?_ ?_)
      | (with_reducible refine LeO.bind ?_ (fun _ => ?_))
      | exact ih0 _ _ _ _ _ _
      | exact impl_moment_with.mono _ _ _ _ _ _ _
      | exact LeO.none _
      | refine LeO.ite ?_ ?_
      | refine LeO.bind ?_ (fun _ => ?_)
theorem impl_momentOf.mono : ∀ a0 k, LeO (impl_momentOf.f k a0) (impl_momentOf.f (k + 1) a0) := by
  intro a0 k
  have ih0 := impl_momentOf.mono_l k
  unfold impl_momentOf.f
  repeat' first
      | (with_reducible exact ih0 _ _ _ _ _ _)
      | (with_reducible exact impl_moment_with.mono _ _ _ _ _ _ _)
      | (with_reducible exact LeO.refl _)
      | (with_reducible exact LeO.none _)
      | (with_reducible refine LeO.ite ?_ ?_)
      | (with_reducible refine LeO.bind ?_ (fun _ => ?_))
      | exact ih0 _ _ _ _ _ _
      | exact impl_moment_with.mono _ _ _ _ _ _ _
      | exact LeO.none _
      | refine LeO.ite ?_ ?_
      | refine LeO.bind ?_ (fun _ => ?_)
set_option maxHeartbeats 8000000 in
set_option maxRecDepth 100000 in
theorem impl_momentOf.calls (k : Nat) (A0 : Option Addr) (c0 : Nat) (l0 : List (S64)) (r1 : Int) (r2 : Int) (r3 : Int) (w : World) (hr0 : Kd.C k64 w A0 l0.length l0) (hc0 : l0.length ≤ c0) (h : impl_momentOf.f k l0 = some (r1, r2, r3)) :
    Calls Try.prog 85 #[.slice A0 l0.length c0] w fun e w' => e = .returned (.agg #[.int .i64 r1, .int .i64 r2, .int .i64 r3]) ∧ Below w.heap.size w w' := by
  have hu81 := Try.underlying81
  have hu64 := Try.underlying64
  have hu62 := Try.underlying62
  have HR0 := Aside0.mk hr0
  have HC0 := Aside0.mk hc0
  clear hr0 hc0
  have HB := Aside0.mk (Below.refl w.heap.size w)
  have H : (impl_momentOf.l0 k l0 (l0.length : Int) 0 0 0 0) = some (r1, r2, r3) := h
  clear h
  have H' := Aside0.mk H
  clear H
  go_enter Try.func85, Try.ntmps85
  go_wp2_with (first | ((with_reducible refine gate_dst (N := 2) rfl ?_); refine box_event ?hg (N := 2) ?hd (cs := #[.int .i64 0, .int .i64 0, .int .i64 0]) (t := 81) ?hr ?_; (case hd => rfl); (case hg => rfl); (case hr => first | (go_simp; done) | (go_simp; rfl)); intro gb185 hg w2 hbox hb; have n0_ := Aside0.mk (below_step (by repeat (first | (with_reducible first | exact HB.out | apply below_alloc | apply pw_below_drewN | apply below_drew1) | exact HB.out)) hb); have n1_ := Aside0.mk (hbox); have n2_ := Aside0.mk ((by rw [hg]; exact (below_size (by repeat (first | (with_reducible first | exact HB.out | apply below_alloc | apply pw_below_drewN | apply below_drew1) | exact HB.out))) : w.heap.size ≤ gb185)); have n3_ := Aside0.mk ((by rw [hg]; exact (below_size (by repeat (first | (with_reducible first | exact HB.out | apply below_alloc | apply pw_below_drewN | apply below_drew1) | exact HB.out))) : w.heap.size ≤ gb185)); clear HB; have HB := n0_; have BK185 := n1_; have GW185 := n2_; have GE185 := n3_; clear n0_ n1_ n2_ n3_; clear hb hbox hg) | ((with_reducible refine gate_dst (N := 3) rfl ?_); refine box_event ?hg (N := 3) ?hd (cs := #[.int .i64 0, .int .i64 0, .int .i64 0]) (t := 81) ?hr ?_; (case hd => rfl); (case hg => rfl); (case hr => first | (go_simp; done) | (go_simp; rfl)); intro gb186 hg w3 hbox hb; have n0_ := Aside0.mk (blk_below (g := gb185) (o := .cells #[.int .i64 0, .int .i64 0, .int .i64 0] 81 (0, 0)) (by (with_reducible repeat (first | refine blk_drewN ?_ _ | refine blk_drew ?_ | refine blk_alloc ?_ _)); exact BK185.out) hb); have n1_ := Aside0.mk (below_step (by repeat (first | (with_reducible first | exact HB.out | apply below_alloc | apply pw_below_drewN | apply below_drew1 | refine below_set ?_ GE185.out) | exact HB.out)) hb); have n2_ := Aside0.mk (hbox); have n3_ := Aside0.mk ((by rw [hg]; exact (below_size (by repeat (first | (with_reducible first | exact HB.out | apply below_alloc | apply pw_below_drewN | apply below_drew1 | refine below_set ?_ GE185.out) | exact HB.out))) : w.heap.size ≤ gb186)); have n4_ := Aside0.mk ((by rw [hg]; exact (below_size (by repeat (first | (with_reducible first | exact HB.out | apply below_alloc | apply pw_below_drewN | apply below_drew1 | refine below_set ?_ GE185.out) | exact HB.out))) : w.heap.size ≤ gb186)); have n5_ := Aside0.mk ((by rw [hg]; exact Nat.ne_of_lt (blk_lt (g := gb185) (o := .cells #[.int .i64 0, .int .i64 0, .int .i64 0] 81 (0, 0)) (by (with_reducible repeat (first | refine blk_drewN ?_ _ | refine blk_drew ?_ | refine blk_alloc ?_ _)); exact BK185.out)) : gb185 ≠ gb186)); have n6_ := Aside0.mk ((by rw [hg]; exact Nat.ne_of_gt (blk_lt (g := gb185) (o := .cells #[.int .i64 0, .int .i64 0, .int .i64 0] 81 (0, 0)) (by (with_reducible repeat (first | refine blk_drewN ?_ _ | refine blk_drew ?_ | refine blk_alloc ?_ _)); exact BK185.out)) : gb186 ≠ gb185)); clear BK185; clear HB; have BK185 := n0_; have HB := n1_; have BK186 := n2_; have GW186 := n3_; have GE186 := n4_; have NB185_186 := n5_; have NB186_185 := n6_; clear n0_ n1_ n2_ n3_ n4_ n5_ n6_; clear hb hbox hg; have hnb4 := NB186_185.out; have hnc4 := NB185_186.out; have hcz5_0 : w3.cell? ⟨gb186, 0, none⟩ = some (.int .i64 0) := (blk_cell BK186.out 0).trans rfl; have hcz5_1 : w3.cell? ⟨gb186, 1, none⟩ = some (.int .i64 0) := (blk_cell BK186.out 1).trans rfl; have hcz5_2 : w3.cell? ⟨gb186, 2, none⟩ = some (.int .i64 0) := (blk_cell BK186.out 2).trans rfl; have hfz5_0 := blk_frozen BK186.out 0; have hfz5_1 := blk_frozen BK186.out 1; have hfz5_2 := blk_frozen BK186.out 2))
  go_loopg [9] k (fun kq v9 w' => ∃ (x9_1 : Int) (x187000_1 : Int) (x187001_1 : Int) (x187002_1 : Int), v9 = .int .i64 x9_1 ∧ Aside0 (impl_momentOf.l0 kq l0 (l0.length : Int) x9_1 x187000_1 x187001_1 x187002_1 = some (r1, r2, r3)) ∧ Aside0 (kq ≤ k) ∧ Aside0 (w'.heap[gb185]? = some (.cells #[.int .i64 0, .int .i64 0, .int .i64 0] 81 (0, 0))) ∧ Aside0 (w'.heap[gb186]? = some (.cells #[.int .i64 x187000_1, .int .i64 x187001_1, .int .i64 x187002_1] 81 (0, 0))) ∧ Aside0 (Below w.heap.size w w'))
  case atStart => exact ⟨(0), (0), (0), (0), (by first | rfl | (simp; done) | (simp [*]; done)), H', ⟨Nat.le_refl _⟩, ⟨by (with_reducible repeat (first | refine blk_drewN ?_ _ | refine blk_drew ?_ | refine blk_alloc ?_ _)); refine blk_far ?_ NB185_186.out _; (with_reducible repeat (first | refine blk_drewN ?_ _ | refine blk_drew ?_ | refine blk_alloc ?_ _)); refine blk_far ?_ NB185_186.out _; (with_reducible repeat (first | refine blk_drewN ?_ _ | refine blk_drew ?_ | refine blk_alloc ?_ _)); refine blk_far ?_ NB185_186.out _; (with_reducible repeat (first | refine blk_drewN ?_ _ | refine blk_drew ?_ | refine blk_alloc ?_ _)); exact BK185.out⟩, ⟨by (with_reducible repeat (first | refine blk_drewN ?_ _ | refine blk_drew ?_ | refine blk_alloc ?_ _)); refine blk_put (cs := #[.int .i64 0, .int .i64 0, .int .i64 0]) ?_ 2 _ rfl; (with_reducible repeat (first | refine blk_drewN ?_ _ | refine blk_drew ?_ | refine blk_alloc ?_ _)); refine blk_put (cs := #[.int .i64 0, .int .i64 0, .int .i64 0]) ?_ 1 _ rfl; (with_reducible repeat (first | refine blk_drewN ?_ _ | refine blk_drew ?_ | refine blk_alloc ?_ _)); refine blk_put (cs := #[.int .i64 0, .int .i64 0, .int .i64 0]) ?_ 0 _ rfl; (with_reducible repeat (first | refine blk_drewN ?_ _ | refine blk_drew ?_ | refine blk_alloc ?_ _)); exact BK186.out⟩, ⟨by repeat (first | (with_reducible first | exact HB.out | apply below_alloc | apply pw_below_drewN | apply below_drew1 | refine below_set ?_ GE185.out | refine below_set ?_ GE186.out) | exact HB.out)⟩⟩
  case round =>
    clear H'
    try clear p2
    try clear c4
    try clear hcz5_0
    try clear hcz5_1
    try clear hcz5_2
    try clear hfz5_0
    try clear hfz5_1
    try clear hfz5_2
    obtain ⟨x9_1, x187000_1, x187001_1, x187002_1, rfl, HA, HK1, BK185, BK186, HB⟩ := hrel
    cases gk with
    | zero => exact absurd HA.out (by simp [impl_momentOf.l0])
    | succ k1 =>
      have H := HA.out
      clear HA
      simp only [impl_momentOf.l0] at H
      by_cases c6 : x9_1 < (l0.length : Int)
      · rw [if_pos c6] at H
        have c6b0 : decide (x9_1 < (l0.length : Int)) = true := decide_eq_true c6
        clear c6
        by_cases c7 : 0 ≤ x9_1
        · rw [if_pos c7] at H
          have c7b0 : decide (0 ≤ x9_1) = true := decide_eq_true c7
          clear c7
          by_cases c8 : x9_1 < (l0.length : Int)
          · rw [if_pos c8] at H
            have c8b0 : decide (x9_1 < (l0.length : Int)) = true := decide_eq_true c8
            clear c8
            replace H := Option.bind_eq_some_iff.mp H
            obtain ⟨⟨t189, t190, t191⟩, A90, H⟩ := H
            replace H : (impl_momentOf.l0 k1 l0 (l0.length : Int) (wrap64 (x9_1 + 1)) t189 t190 t191) = some (r1, r2, r3) := H
            have A9 := Aside0.mk A90
            clear A90
            have H' := Aside0.mk H
            clear H
            have p187 : 0 ≤ (x9_1 : Int) := of_decide_eq_true (by first | (with_reducible assumption) | assumption)
            have q187 : x9_1 < (l0.length : Int) := of_decide_eq_true (by first | (with_reducible assumption) | assumption)
            obtain ⟨ad187, e187, hx187_0, hx187_1, hx187_2⟩ := at_T64 HR0.out x9_1 p187 q187
            cases e187
            replace hx187_0 := (HB.out.cell (World.block_lt_of_cell? w _ hx187_0)).trans hx187_0
            replace hx187_1 := (HB.out.cell (World.block_lt_of_cell? w _ hx187_1)).trans hx187_1
            replace hx187_2 := (HB.out.cell (World.block_lt_of_cell? w _ hx187_2)).trans hx187_2
            replace p187 := eq_true p187
            replace q187 := eq_true q187
            go_wp2_with (first | ((with_reducible refine gate_dst (N := 5) rfl ?_); refine box_event ?hg (N := 5) ?hd (cs := #[.int .i64 0, .int .i64 0, .int .i64 0]) (t := 64) ?hr ?_; (case hd => rfl); (case hg => rfl); (case hr => first | (go_simp; done) | (go_simp; rfl)); intro gb188 hg w10 hbox hb; have n0_ := Aside0.mk (blk_below (g := gb185) (o := .cells #[.int .i64 0, .int .i64 0, .int .i64 0] 81 (0, 0)) (by (with_reducible repeat (first | refine blk_drewN ?_ _ | refine blk_drew ?_ | refine blk_alloc ?_ _)); exact BK185.out) hb); have n1_ := Aside0.mk (blk_below (g := gb186) (o := .cells #[.int .i64 x187000_1, .int .i64 x187001_1, .int .i64 x187002_1] 81 (0, 0)) (by (with_reducible repeat (first | refine blk_drewN ?_ _ | refine blk_drew ?_ | refine blk_alloc ?_ _)); exact BK186.out) hb); have n2_ := Aside0.mk (below_step (by repeat (first | (with_reducible first | exact HB.out | apply below_alloc | apply pw_below_drewN | apply below_drew1 | refine below_set ?_ GE185.out | refine below_set ?_ GE186.out) | exact HB.out)) hb); have n3_ := Aside0.mk (hbox); have n4_ := Aside0.mk ((by rw [hg]; exact (below_size (by repeat (first | (with_reducible first | exact HB.out | apply below_alloc | apply pw_below_drewN | apply below_drew1 | refine below_set ?_ GE185.out | refine below_set ?_ GE186.out) | exact HB.out))) : w.heap.size ≤ gb188)); have n5_ := Aside0.mk ((by rw [hg]; exact (below_size (by repeat (first | (with_reducible first | exact HB.out | apply below_alloc | apply pw_below_drewN | apply below_drew1 | refine below_set ?_ GE185.out | refine below_set ?_ GE186.out) | exact HB.out))) : w.heap.size ≤ gb188)); have n6_ := Aside0.mk ((by rw [hg]; exact Nat.ne_of_lt (blk_lt (g := gb185) (o := .cells #[.int .i64 0, .int .i64 0, .int .i64 0] 81 (0, 0)) (by (with_reducible repeat (first | refine blk_drewN ?_ _ | refine blk_drew ?_ | refine blk_alloc ?_ _)); exact BK185.out)) : gb185 ≠ gb188)); have n7_ := Aside0.mk ((by rw [hg]; exact Nat.ne_of_gt (blk_lt (g := gb185) (o := .cells #[.int .i64 0, .int .i64 0, .int .i64 0] 81 (0, 0)) (by (with_reducible repeat (first | refine blk_drewN ?_ _ | refine blk_drew ?_ | refine blk_alloc ?_ _)); exact BK185.out)) : gb188 ≠ gb185)); have n8_ := Aside0.mk ((by rw [hg]; exact Nat.ne_of_lt (blk_lt (g := gb186) (o := .cells #[.int .i64 x187000_1, .int .i64 x187001_1, .int .i64 x187002_1] 81 (0, 0)) (by (with_reducible repeat (first | refine blk_drewN ?_ _ | refine blk_drew ?_ | refine blk_alloc ?_ _)); exact BK186.out)) : gb186 ≠ gb188)); have n9_ := Aside0.mk ((by rw [hg]; exact Nat.ne_of_gt (blk_lt (g := gb186) (o := .cells #[.int .i64 x187000_1, .int .i64 x187001_1, .int .i64 x187002_1] 81 (0, 0)) (by (with_reducible repeat (first | refine blk_drewN ?_ _ | refine blk_drew ?_ | refine blk_alloc ?_ _)); exact BK186.out)) : gb188 ≠ gb186)); clear BK185; clear BK186; clear HB; have BK185 := n0_; have BK186 := n1_; have HB := n2_; have BK188 := n3_; have GW188 := n4_; have GE188 := n5_; have NB185_188 := n6_; have NB188_185 := n7_; have NB186_188 := n8_; have NB188_186 := n9_; clear n0_ n1_ n2_ n3_ n4_ n5_ n6_ n7_ n8_ n9_; clear hb hbox hg; have hnb11 := NB188_185.out; have hnc11 := NB185_188.out; have hnb12 := NB188_186.out; have hnc12 := NB186_188.out; have hcz13_0 : w10.cell? ⟨gb188, 0, none⟩ = some (.int .i64 0) := (blk_cell BK188.out 0).trans rfl; have hcz13_1 : w10.cell? ⟨gb188, 1, none⟩ = some (.int .i64 0) := (blk_cell BK188.out 1).trans rfl; have hcz13_2 : w10.cell? ⟨gb188, 2, none⟩ = some (.int .i64 0) := (blk_cell BK188.out 2).trans rfl; have hfz13_0 := blk_frozen BK188.out 0; have hfz13_1 := blk_frozen BK188.out 1; have hfz13_2 := blk_frozen BK188.out 2; have hnb14 := NB186_185.out; have hnc14 := NB185_186.out; have hcz15_0 : w10.cell? ⟨gb186, 0, none⟩ = some (.int .i64 x187000_1) := (blk_cell BK186.out 0).trans rfl; have hcz15_1 : w10.cell? ⟨gb186, 1, none⟩ = some (.int .i64 x187001_1) := (blk_cell BK186.out 1).trans rfl; have hcz15_2 : w10.cell? ⟨gb186, 2, none⟩ = some (.int .i64 x187002_1) := (blk_cell BK186.out 2).trans rfl; have hfz15_0 := blk_frozen BK186.out 0; have hfz15_1 := blk_frozen BK186.out 1; have hfz15_2 := blk_frozen BK186.out 2) | ((with_reducible refine gate_callee (f := 92) rfl ?_); refine goesL_ (some 18) rfl rfl Try.func92 (by kernel_rfl) rfl #[.agg #[.int .i64 x187000_1, .int .i64 x187001_1, .int .i64 x187002_1], .agg #[.int .i64 ((rd_T64 l0 x9_1).f1.f0), .int .i64 ((rd_T64 l0 x9_1).f1.f1)], .int .i64 ((rd_T64 l0 x9_1).f0)] rfl (by (try simp only [List.map_toArray, List.map_cons, List.map_nil]); first | done | rfl | (simp only [List.length_drop, List.length_take]; rfl)) ?_; (with_reducible refine (impl_moment_with.calls k1 x187000_1 x187001_1 x187002_1 ((rd_T64 l0 x9_1).f1.f0) ((rd_T64 l0 x9_1).f1.f1) ((rd_T64 l0 x9_1).f0) t189 t190 t191 _ A9.out).mono ?_); rintro e w16 ⟨rfl, hb⟩; refine ⟨_, rfl, ?_⟩; have n0_ := Aside0.mk (blk_below (g := gb185) (o := .cells #[.int .i64 0, .int .i64 0, .int .i64 0] 81 (0, 0)) (by (with_reducible repeat (first | refine blk_drewN ?_ _ | refine blk_drew ?_ | refine blk_alloc ?_ _)); refine blk_far ?_ NB185_188.out _; (with_reducible repeat (first | refine blk_drewN ?_ _ | refine blk_drew ?_ | refine blk_alloc ?_ _)); refine blk_far ?_ NB185_188.out _; (with_reducible repeat (first | refine blk_drewN ?_ _ | refine blk_drew ?_ | refine blk_alloc ?_ _)); refine blk_far ?_ NB185_188.out _; (with_reducible repeat (first | refine blk_drewN ?_ _ | refine blk_drew ?_ | refine blk_alloc ?_ _)); exact BK185.out) hb); have n1_ := Aside0.mk (blk_below (g := gb186) (o := .cells #[.int .i64 x187000_1, .int .i64 x187001_1, .int .i64 x187002_1] 81 (0, 0)) (by (with_reducible repeat (first | refine blk_drewN ?_ _ | refine blk_drew ?_ | refine blk_alloc ?_ _)); refine blk_far ?_ NB186_188.out _; (with_reducible repeat (first | refine blk_drewN ?_ _ | refine blk_drew ?_ | refine blk_alloc ?_ _)); refine blk_far ?_ NB186_188.out _; (with_reducible repeat (first | refine blk_drewN ?_ _ | refine blk_drew ?_ | refine blk_alloc ?_ _)); refine blk_far ?_ NB186_188.out _; (with_reducible repeat (first | refine blk_drewN ?_ _ | refine blk_drew ?_ | refine blk_alloc ?_ _)); exact BK186.out) hb); have n2_ := Aside0.mk (blk_below (g := gb188) (o := .cells #[.int .i64 ((rd_T64 l0 x9_1).f0), .int .i64 ((rd_T64 l0 x9_1).f1.f0), .int .i64 ((rd_T64 l0 x9_1).f1.f1)] 64 (0, 0)) (by (with_reducible repeat (first | refine blk_drewN ?_ _ | refine blk_drew ?_ | refine blk_alloc ?_ _)); refine blk_put (cs := #[.int .i64 ((rd_T64 l0 x9_1).f0), .int .i64 ((rd_T64 l0 x9_1).f1.f0), .int .i64 0]) ?_ 2 _ rfl; (with_reducible repeat (first | refine blk_drewN ?_ _ | refine blk_drew ?_ | refine blk_alloc ?_ _)); refine blk_put (cs := #[.int .i64 ((rd_T64 l0 x9_1).f0), .int .i64 0, .int .i64 0]) ?_ 1 _ rfl; (with_reducible repeat (first | refine blk_drewN ?_ _ | refine blk_drew ?_ | refine blk_alloc ?_ _)); refine blk_put (cs := #[.int .i64 0, .int .i64 0, .int .i64 0]) ?_ 0 _ rfl; (with_reducible repeat (first | refine blk_drewN ?_ _ | refine blk_drew ?_ | refine blk_alloc ?_ _)); exact BK188.out) hb); have n3_ := Aside0.mk (below_step (by repeat (first | (with_reducible first | exact HB.out | apply below_alloc | apply pw_below_drewN | apply below_drew1 | refine below_set ?_ GE185.out | refine below_set ?_ GE186.out | refine below_set ?_ GE188.out) | exact HB.out)) hb); clear BK185; clear BK186; clear BK188; clear HB; have BK185 := n0_; have BK186 := n1_; have BK188 := n2_; have HB := n3_; clear n0_ n1_ n2_ n3_; (try clear hb); (try clear hb2); (try clear hk); (try clear hi); have hcz17_0 : w16.cell? ⟨gb186, 0, none⟩ = some (.int .i64 x187000_1) := (blk_cell BK186.out 0).trans rfl; have hcz17_1 : w16.cell? ⟨gb186, 1, none⟩ = some (.int .i64 x187001_1) := (blk_cell BK186.out 1).trans rfl; have hcz17_2 : w16.cell? ⟨gb186, 2, none⟩ = some (.int .i64 x187002_1) := (blk_cell BK186.out 2).trans rfl; have hfz17_0 := blk_frozen BK186.out 0; have hfz17_1 := blk_frozen BK186.out 1; have hfz17_2 := blk_frozen BK186.out 2))
            go_roundg k1
            case measure => have := HK1.out; omega
            case rel => exact ⟨(wrap64 (x9_1 + 1)), (t189), (t190), (t191), (by first | rfl | (simp; done) | (simp [*]; done)), H', ⟨by have := HK1.out; omega⟩, ⟨by (with_reducible repeat (first | refine blk_drewN ?_ _ | refine blk_drew ?_ | refine blk_alloc ?_ _)); refine blk_far ?_ NB185_186.out _; (with_reducible repeat (first | refine blk_drewN ?_ _ | refine blk_drew ?_ | refine blk_alloc ?_ _)); refine blk_far ?_ NB185_186.out _; (with_reducible repeat (first | refine blk_drewN ?_ _ | refine blk_drew ?_ | refine blk_alloc ?_ _)); refine blk_far ?_ NB185_186.out _; (with_reducible repeat (first | refine blk_drewN ?_ _ | refine blk_drew ?_ | refine blk_alloc ?_ _)); exact BK185.out⟩, ⟨by (with_reducible repeat (first | refine blk_drewN ?_ _ | refine blk_drew ?_ | refine blk_alloc ?_ _)); refine blk_put (cs := #[.int .i64 t189, .int .i64 t190, .int .i64 x187002_1]) ?_ 2 _ rfl; (with_reducible repeat (first | refine blk_drewN ?_ _ | refine blk_drew ?_ | refine blk_alloc ?_ _)); refine blk_put (cs := #[.int .i64 t189, .int .i64 x187001_1, .int .i64 x187002_1]) ?_ 1 _ rfl; (with_reducible repeat (first | refine blk_drewN ?_ _ | refine blk_drew ?_ | refine blk_alloc ?_ _)); refine blk_put (cs := #[.int .i64 x187000_1, .int .i64 x187001_1, .int .i64 x187002_1]) ?_ 0 _ rfl; (with_reducible repeat (first | refine blk_drewN ?_ _ | refine blk_drew ?_ | refine blk_alloc ?_ _)); exact BK186.out⟩, ⟨by repeat (first | (with_reducible first | exact HB.out | apply below_alloc | apply pw_below_drewN | apply below_drew1 | refine below_set ?_ GE185.out | refine below_set ?_ GE186.out | refine below_set ?_ GE188.out) | exact HB.out)⟩⟩
          · rw [if_neg c8] at H
            exact absurd H (by simp)
        · rw [if_neg c7] at H
          exact absurd H (by simp)
      · rw [if_neg c6] at H
        have c6b0 : decide (x9_1 < (l0.length : Int)) = false := decide_eq_false c6
        clear c6
        simp only [Option.some.injEq, Prod.mk.injEq] at H
        obtain ⟨rfl, rfl, rfl⟩ := H
        have hnb18 := NB186_185.out
        have hnc18 := NB185_186.out
        have hcz19_0 : wr.cell? ⟨gb186, 0, none⟩ = some (.int .i64 x187000_1) := (blk_cell BK186.out 0).trans rfl
        have hcz19_1 : wr.cell? ⟨gb186, 1, none⟩ = some (.int .i64 x187001_1) := (blk_cell BK186.out 1).trans rfl
        have hcz19_2 : wr.cell? ⟨gb186, 2, none⟩ = some (.int .i64 x187002_1) := (blk_cell BK186.out 2).trans rfl
        have hfz19_0 := blk_frozen BK186.out 0
        have hfz19_1 := blk_frozen BK186.out 1
        have hfz19_2 := blk_frozen BK186.out 2
        have hcz20_0 : wr.cell? ⟨gb185, 0, none⟩ = some (.int .i64 0) := (blk_cell BK185.out 0).trans rfl
        have hcz20_1 : wr.cell? ⟨gb185, 1, none⟩ = some (.int .i64 0) := (blk_cell BK185.out 1).trans rfl
        have hcz20_2 : wr.cell? ⟨gb185, 2, none⟩ = some (.int .i64 0) := (blk_cell BK185.out 2).trans rfl
        have hfz20_0 := blk_frozen BK185.out 0
        have hfz20_1 := blk_frozen BK185.out 1
        have hfz20_2 := blk_frozen BK185.out 2
        go_wp2
        refine bodyPost_ret (results_cell_row rfl _ _ gb185 81 #[.int .i64 x187000_1, .int .i64 x187001_1, .int .i64 x187002_1] (0, 0) _ rfl (by (with_reducible repeat (first | refine blk_drewN ?_ _ | refine blk_drew ?_ | refine blk_alloc ?_ _)); refine blk_put (cs := #[.int .i64 x187000_1, .int .i64 x187001_1, .int .i64 0]) ?_ 2 _ rfl; (with_reducible repeat (first | refine blk_drewN ?_ _ | refine blk_drew ?_ | refine blk_alloc ?_ _)); refine blk_put (cs := #[.int .i64 x187000_1, .int .i64 0, .int .i64 0]) ?_ 1 _ rfl; (with_reducible repeat (first | refine blk_drewN ?_ _ | refine blk_drew ?_ | refine blk_alloc ?_ _)); refine blk_put (cs := #[.int .i64 0, .int .i64 0, .int .i64 0]) ?_ 0 _ rfl; (with_reducible repeat (first | refine blk_drewN ?_ _ | refine blk_drew ?_ | refine blk_alloc ?_ _)); exact BK185.out) Try.underlying81 rfl (by kernel_rfl)) rfl ?_
        exact ⟨by first | rfl | (simp [errW_none, errW_some] <;> rfl) | (simp [*, errW_none, errW_some] <;> rfl), by repeat (first | (with_reducible first | exact HB.out | apply below_alloc | apply pw_below_drewN | apply below_drew1 | refine below_set ?_ GE185.out | refine below_set ?_ GE186.out) | exact HB.out)⟩

/-! ### impl_MomentOf: function 43 -/
theorem three_R (w : World) (base : Nat) (hb : base ≤ w.heap.size) (m0 m1 m2 : Int) : (Kd.int .i64).R 81 (w.alloc (.cells #[.int .i64 m0, .int .i64 m1, .int .i64 m2] 81)) base (fun _ => True) (.slice (some ⟨w.heap.size, 0, none⟩) 3 3) [m0, m1, m2] := by
  refine ⟨fun _ _ => trivial, ?_⟩
  have h := OwnRow.lit (R := (Kd.int .i64).M (w.alloc (.cells #[.int .i64 m0, .int .i64 m1, .int .i64 m2] 81)) base (fun k => True ∧ some k ≠ (Value.slice (some ⟨w.heap.size, 0, none⟩) 3 3).ownBlock)) (e := 81) (size := 1) (ps := [m0, m1, m2]) w base (inner := [.int .i64 m0, .int .i64 m1, .int .i64 m2]) ?_ hb (by simp)
  · exact h
  · refine ⟨rfl, fun j p hp => ?_⟩
    match j, hp with
    | 0, hp => obtain rfl : m0 = p := by simpa using hp
               rfl
    | 1, hp => obtain rfl : m1 = p := by simpa using hp
               rfl
    | 2, hp => obtain rfl : m2 = p := by simpa using hp
               rfl
    | j + 3, hp => simp at hp
def impl_MomentOf.f (k : Nat) (l0 : List S64) : Option (List Int × Int) := (impl_ValidLoads.f l0).bind fun v => if v = true then ((impl_momentOf.f k l0).bind fun m => some ([m.1, m.2.1, m.2.2], 0)) else some ([], 1)
theorem impl_MomentOf.mono : ∀ a0 k, LeO (impl_MomentOf.f k a0) (impl_MomentOf.f (k + 1) a0) := by
  intro a0 k
  unfold impl_MomentOf.f
  repeat' first
      | (with_reducible exact impl_momentOf.mono _ _)
      | (with_reducible exact LeO.refl _)
      | (with_reducible refine LeO.ite ?_ ?_)
      | (with_reducible refine LeO.bind ?_ (fun _ => ?_))
set_option maxHeartbeats 8000000 in
set_option maxRecDepth 100000 in
theorem impl_MomentOf.calls (k : Nat) (A0 : Option Addr) (c0 : Nat) (l0 : List S64) (r1 : List Int) (r2 : Int) (w : World) (hr0 : Kd.C k64 w A0 l0.length l0) (hc0 : l0.length ≤ c0) (h : impl_MomentOf.f k l0 = some (r1, r2)) :
    Calls Try.prog 43 #[.slice A0 l0.length c0] w fun e w' => ∃ v0_ : Value, e = .returned (.tuple #[v0_, .int .i64 r2]) ∧ Kd.R (Kd.int .i64) 81 w' w.heap.size (fun _ => True) v0_ r1 ∧ Below w.heap.size w w' := by
  obtain ⟨v, h1, h⟩ := Option.bind_eq_some_iff.mp h
  have HR0 := Aside0.mk hr0
  have HC0 := Aside0.mk hc0
  have H1 := Aside0.mk h1
  clear hr0 hc0 h1
  cases v with
  | true =>
    rw [if_pos rfl] at h
    obtain ⟨⟨m0, m1, m2⟩, h4, h⟩ := Option.bind_eq_some_iff.mp h
    have e := Option.some.inj h
    simp only [Prod.mk.injEq] at e
    obtain ⟨rfl, rfl⟩ := e
    have H4 := Aside0.mk h4
    clear h h4
    go_enter Try.func43, Try.ntmps43
    go_wp2_with (first | (go_at_call 40; refine (impl_ValidLoads.calls _ _ l0 true _ HR0.out HC0.out H1.out).mono ?_; rintro e w1 ⟨rfl, hb1⟩; have HB1 := Aside0.mk hb1; clear hb1) | (go_at_call 85; refine (impl_momentOf.calls k _ _ l0 m0 m1 m2 _ (Kd.C_below HR0.out HB1.out) HC0.out H4.out).mono ?_; rintro e w4 ⟨rfl, hb4⟩; have HB4 := Aside0.mk (below_step HB1.out hb4); clear hb4))
    go_ret2
    exact ⟨_, rfl, three_R w4 w.heap.size HB4.out.size m0 m1 m2, below_alloc HB4.out _⟩
  | false =>
    rw [if_neg (by simp)] at h
    have e := Option.some.inj h
    simp only [Prod.mk.injEq] at e
    obtain ⟨rfl, rfl⟩ := e
    clear h
    go_enter Try.func43, Try.ntmps43
    go_wp2_with (first | (go_at_call 40; refine (impl_ValidLoads.calls _ _ l0 false _ HR0.out HC0.out H1.out).mono ?_; rintro e w1 ⟨rfl, hb1⟩; have HB1 := Aside0.mk hb1; clear hb1))
    go_ret2
    exact ⟨_, rfl, Kd.R_nil _ _ _ _ _, HB1.out⟩


/-! ### laws_markLoadS: function 44 -/
/-- The number behind marking n loads from number i on. -/
def mkl : Nat → Int → Int
  | 0, x => x
  | n + 1, x => mkl n (wrap64 (wrap64 (wrap64 (x + 1) + 1) + 1))
def laws_markLoadS.f (l0 : List S64) (a1 : Int) : Option (Int) := if l0.length ≤ 1048576 then some (mkl l0.length a1) else none
set_option maxHeartbeats 8000000 in
set_option maxRecDepth 100000 in
theorem laws_markLoadS.calls_ (P0_ : Nat → Prop) (u : Value) (l0 : List S64) (a1 : Int) (r : Int) (w0 w : World) (hB : Below w0.heap.size w0 w) (ho0 : Kd.R k64 64 w w0.heap.size P0_ u l0) (h : laws_markLoadS.f l0 a1 = some r) :
    Calls Try.prog 44 #[u, .int .i64 a1] w fun e w' => e = .returned (.int .i64 r) ∧ Below w0.heap.size w0 w' ∧ Kept w w' P0_ := by
  unfold laws_markLoadS.f at h
  by_cases hl : l0.length ≤ 1048576
  case neg => rw [if_neg hl] at h; exact absurd h (by simp)
  rw [if_pos hl] at h
  obtain rfl := Option.some.inj h
  clear h
  obtain ⟨A, c, rfl⟩ := Kd.R_slice ho0
  generalize hn : l0.length = n at *
  have HB := Aside0.mk hB
  have HK := Aside0.mk (Kept.refl w P0_)
  by_cases h0 : n = 0
  · subst h0
    clear ho0 hB hn
    go_enter Try.func44, Try.ntmps44
    go_wp2
    go_loopg [1, 5] 0 (fun gg s1 s5 wr => s1 = .int .i64 a1 ∧ s5 = .int .i64 0 ∧ wr = w)
    case atStart => exact ⟨rfl, rfl, rfl⟩
    case round =>
      obtain ⟨rfl, rfl, rfl⟩ := hrel
      go_wp2
      go_ret
      exact ⟨rfl, HB.out, HK.out⟩
  · obtain ⟨g, cap, e8, gb, gl, cells, hcells⟩ := Kd.R_form ho0 (by omega)
    rw [hn] at e8
    injection e8 with e1 e2 e3
    subst e1
    subst e3
    have hP := ho0.1 g rfl
    have hsz : 3 * n ≤ cells.size := by
      obtain ⟨_, inner, ho, hr⟩ := ho0
      have := hr.1
      rcases ho.2 with ⟨hv, _⟩ | ⟨g', cap', cur, hv, hg, hh, rr⟩
      · cases hv
      · injection hv with a1 a2 a3
        injection a1 with a1
        injection a1 with a1
        subst a1
        rw [hcells] at hh
        injection hh with hh
        injection hh with hh
        subst hh
        have hz : (k64).sz = 3 := rfl
        have r1 := rr.1
        have r2 := rr.2.2.1
        rw [hz] at r2
        omega
    have HCL := Aside0.mk hcells
    have HGB := Aside0.mk gb
    have HSZ := Aside0.mk hsz
    have HP := Aside0.mk hP
    clear ho0 hB hcells gb gl hsz hP hn
    go_enter Try.func44, Try.ntmps44
    go_wp2
    go_loopg [1, 5] n (fun gg s1 s5 wr => ∃ (ii : Nat) (x : Int) (cs : Array Value), ii ≤ n ∧ n - ii ≤ gg ∧ s1 = .int .i64 x ∧ s5 = .int .i64 ii ∧ mkl (n - ii) x = mkl n a1 ∧ Aside0 (wr.heap[g]? = some (.cells cs 64 (0, 0)) ∧ cs.size = cells.size) ∧ Aside0 (Kept w wr P0_) ∧ Aside0 (Below w0.heap.size w0 wr))
    case atStart => exact ⟨0, a1, cells, Nat.zero_le _, by omega, rfl, rfl, rfl, ⟨HCL.out, rfl⟩, HK, HB⟩
    case round =>
      clear HCL HK HB
      obtain ⟨ii, x, cs, hii, hg, rfl, rfl, hm, HC, HK, HB⟩ := hrel
      by_cases hlt : ii < n
      · have hltz : (ii : Int) < (n : Int) := by omega
        have hi0 : (0 : Int) ≤ (ii : Int) := by omega
        have hsz := HSZ.out
        have hcs := HC.out.2
        obtain ⟨d, hd⟩ : ∃ d, n - ii = d + 1 := ⟨n - ii - 1, by omega⟩
        rw [hd, mkl] at hm
        have hcell : ∀ (W : World) (cz : Array Value) (j : Nat), W.heap[g]? = some (.cells cz 64 (0, 0)) → cz.size = cells.size → j < 3 * n → ∃ v, W.cell? ⟨g, j, none⟩ = some v ∧ W.frozen? ⟨g, j, none⟩ = false := by
          intro W cz j h1 h2 h3
          refine ⟨cz[j]'(by omega), ?_, blk_frozen h1 j⟩
          rw [blk_cell h1 j, Array.getElem?_eq_getElem (by omega)]
        obtain ⟨y1, hy1⟩ : ∃ y, wrap64 (x + 1) = y := ⟨_, rfl⟩
        obtain ⟨y2, hy2⟩ : ∃ y, wrap64 (y1 + 1) = y := ⟨_, rfl⟩
        rw [hy1, hy2] at hm
        have b0 := HC.out.1
        have b1 := blk_put b0 (ii * 3) (.int .i64 x) rfl
        have b2 := blk_put b1 (ii * 3 + 1) (.int .i64 y1) rfl
        have b3 := blk_put b2 (ii * 3 + 2) (.int .i64 y2) rfl
        obtain ⟨v0, c0, f0⟩ := hcell _ _ (ii * 3) b0 hcs (by omega)
        obtain ⟨v1, c1, f1⟩ := hcell _ _ (ii * 3 + 1) b1 (by rw [Array.size_setIfInBounds]; exact hcs) (by omega)
        obtain ⟨v2, c2, f2⟩ := hcell _ _ (ii * 3 + 2) b2 (by rw [Array.size_setIfInBounds, Array.size_setIfInBounds]; exact hcs) (by omega)
        have HC3 := Aside0.mk (And.intro b3 (show (((cs.setIfInBounds (ii * 3) (.int .i64 x)).setIfInBounds (ii * 3 + 1) (.int .i64 y1)).setIfInBounds (ii * 3 + 2) (.int .i64 y2)).size = cells.size by rw [Array.size_setIfInBounds, Array.size_setIfInBounds, Array.size_setIfInBounds]; exact hcs))
        have HK3 := Aside0.mk (((HK.out.setCell (p := ⟨g, ii * 3, none⟩) (.inl HP.out) (.int .i64 x)).setCell (p := ⟨g, ii * 3 + 1, none⟩) (.inl HP.out) (.int .i64 y1)).setCell (p := ⟨g, ii * 3 + 2, none⟩) (.inl HP.out) (.int .i64 y2))
        have HB3 := Aside0.mk (below_set (j := ii * 3 + 2) (v := .int .i64 y2) (below_set (j := ii * 3 + 1) (v := .int .i64 y1) (below_set (j := ii * 3) (v := .int .i64 x) HB.out HGB.out) HGB.out) HGB.out)
        have HM := Aside0.mk hm
        have hw1 : IntKind.i64.wrap (x + 1) = y1 := by rw [i64_w]; exact hy1
        have hw2 : IntKind.i64.wrap (y1 + 1) = y2 := by rw [i64_w]; exact hy2
        clear hcell b0 b1 b2 b3 hm
        go_upto_region 6 with (fail)
        generalize hW1 : wr.setCell ⟨g, ii * 3, none⟩ (.int .i64 x) = W1 at *
        go_upto_region 8 with (fail)
        generalize hW2 : W1.setCell ⟨g, ii * 3 + 1, none⟩ (.int .i64 y1) = W2 at *
        go_wp2
        go_roundg (n - (ii + 1))
        case measure => omega
        case rel => exact ⟨ii + 1, _, _, by omega, by omega, rfl, by go_num, by rw [show n - (ii + 1) = d by omega]; exact HM.out, HC3, HK3, HB3⟩
      · have hltz : ¬ (ii : Int) < (n : Int) := by omega
        obtain rfl : ii = n := by omega
        go_wp2
        go_ret
        rw [Nat.sub_self] at hm
        exact ⟨by rw [← hm]; rfl, HB.out, HK.out⟩


/-! ### laws_FnExactMomentOf: function 11 -/
def laws_FnExactMomentOf.f (k : Nat) (l0 : List S74) : Option Bool := (laws_szLoadS.f l0 1048576).bind fun s => if s < 0 then some true else (laws_toLoadS.f k l0).bind fun a => (spec_MomentOf.f k a).bind fun ws => (impl_MomentOf.f k a).bind fun g => if g.2 = ws.2 then ((laws_eqInt64S.f k g.1 ws.1).bind fun e1 => if e1 = true then ((laws_eqLoadS.f k a a).bind fun e2 => if e2 = true then ((laws_markLoadS.f a 1).bind fun m1 => if m1 < 0 then none else (laws_markInt64S.f k g.1 1).bind fun m2 => (laws_heldInt64S.f k m2.2 1).bind fun q => if q < 0 then none else if q = m2.1 then some true else none) else none) else none) else none
set_option maxHeartbeats 8000000 in
set_option maxRecDepth 100000 in
theorem laws_FnExactMomentOf.calls (k : Nat) (A0 : Option Addr) (c0 : Nat) (l0 : List S74) (r : Bool) (w : World) (hr0 : Kd.C k74 w A0 l0.length l0) (hc0 : l0.length ≤ c0) (h : laws_FnExactMomentOf.f k l0 = some r) :
    Calls Try.prog 11 #[.slice A0 l0.length c0] w fun e w' => e = .returned (.bool r) ∧ Below w.heap.size w w' := by
  obtain ⟨s, h1, h⟩ := Option.bind_eq_some_iff.mp h
  have HR := Aside0.mk hr0
  have HC := Aside0.mk hc0
  have H1 := Aside0.mk h1
  have HB := Aside0.mk (Below.refl w.heap.size w)
  clear hr0 hc0 h1
  by_cases hs : s < 0
  · rw [if_pos hs] at h
    obtain rfl := Option.some.inj h
    clear h
    go_enter Try.func11, Try.ntmps11
    go_wp2_with (go_at_call 37; refine (laws_szLoadS.calls _ _ l0 1048576 s _ HR.out HC.out H1.out).mono ?_; rintro e w1 ⟨rfl, ⟨nd, rfl⟩⟩)
    go_ret
    exact ⟨rfl, pw_below_drewN HB.out _⟩
  rw [if_neg hs] at h
  obtain ⟨a, h2, h⟩ := Option.bind_eq_some_iff.mp h
  obtain ⟨⟨ws, w2⟩, h3, h⟩ := Option.bind_eq_some_iff.mp h
  obtain ⟨⟨g1, g2⟩, h4, h⟩ := Option.bind_eq_some_iff.mp h
  by_cases e : g2 = w2
  case neg => rw [if_neg e] at h; cases h
  subst e
  rw [if_pos rfl] at h
  obtain ⟨e1, h5, h⟩ := Option.bind_eq_some_iff.mp h
  cases e1 with
  | false => rw [if_neg (by simp)] at h; cases h
  | true =>
  rw [if_pos rfl] at h
  obtain ⟨e2, h6, h⟩ := Option.bind_eq_some_iff.mp h
  cases e2 with
  | false => rw [if_neg (by simp)] at h; cases h
  | true =>
  rw [if_pos rfl] at h
  obtain ⟨m1, h7, h⟩ := Option.bind_eq_some_iff.mp h
  by_cases hm1 : m1 < 0
  · rw [if_pos hm1] at h; cases h
  rw [if_neg hm1] at h
  obtain ⟨⟨m2, gm⟩, h8, h⟩ := Option.bind_eq_some_iff.mp h
  obtain ⟨q, h9, h⟩ := Option.bind_eq_some_iff.mp h
  by_cases hq : q < 0
  · rw [if_pos hq] at h; cases h
  rw [if_neg hq] at h
  by_cases e3 : q = m2
  case neg => rw [if_neg e3] at h; cases h
  rw [if_pos e3] at h
  obtain rfl := Option.some.inj h
  have h5 : laws_eqInt64S.f k g1 ws = some true := h5
  have h8 : laws_markInt64S.f k g1 1 = some (m2, gm) := h8
  have h9 : laws_heldInt64S.f k gm 1 = some q := h9
  subst e3
  have H2 := Aside0.mk h2
  have H3 := Aside0.mk h3
  have H4 := Aside0.mk h4
  have H5 := Aside0.mk h5
  have H6 := Aside0.mk h6
  have H7 := Aside0.mk h7
  have H8 := Aside0.mk h8
  have H9 := Aside0.mk h9
  clear h h2 h3 h4 h5 h6 h7 h8 h9
  have T2 := Aside0.mk trivial
  have T4 := Aside0.mk trivial
  have T5 := Aside0.mk trivial
  have T6 := Aside0.mk trivial
  have T7 := Aside0.mk trivial
  have T10 := Aside0.mk trivial
  have T12 := Aside0.mk trivial
  have T13 := Aside0.mk trivial
  have T14 := Aside0.mk trivial
  have T15 := Aside0.mk trivial
  have T16 := Aside0.mk trivial
  go_enter Try.func11, Try.ntmps11
  go_wp2_with (first
    | (go_at_call 37; refine (laws_szLoadS.calls _ _ l0 1048576 s _ HR.out HC.out H1.out).mono ?_; rintro e w1 ⟨rfl, ⟨nd, rfl⟩⟩; have n0_ := Aside0.mk (pw_below_drewN HB.out nd); clear HB ; have HB := n0_; clear n0_)
    | (go_at_call 39; have t_ := T2; clear t_ T2; refine (laws_toLoadS.calls k _ _ l0 a _ (Kd.C_below HR.out HB.out) HC.out H2.out).mono ?_; rintro e w2 ⟨v2, rfl, ho, hb⟩; have n0_ := Aside0.mk (below_step HB.out hb); have n1_ := Aside0.mk (Kd.R_reads ho); clear HB; have HB := n0_; have OA := n1_; clear n0_ n1_ ho hb; obtain ⟨A2, c2, e2, l2, r2⟩ := OA.out; subst e2; have CA := Aside0.mk r2; have LA := Aside0.mk l2; clear OA r2 l2)
    | (go_at_call 42; refine (spec_MomentOf.calls k _ _ a ws g2 _ CA.out LA.out H3.out).mono ?_; rintro e w3 ⟨v3, rfl, ho, hb⟩; have n0_ := Aside0.mk (below_step HB.out hb); have n1_ := Aside0.mk (Kd.R_mono (Kd.R_bound (Kd.R_lower ho HB.out.size)) (fun k_ hk => (show k_ < w3.heap.size from hk.2.2.1))); clear HB CA LA; have HB := n0_; have HW := n1_; clear n0_ n1_ ho hb; obtain ⟨n3, hn3⟩ : ∃ n, w3.heap.size = n := ⟨_, rfl⟩; rw [hn3] at HW; have N3 := Aside0.mk hn3; clear hn3; obtain ⟨A3, c3, e3⟩ := Kd.R_slice HW.out; subst e3)
    | (go_at_call 39; have t_ := T4; clear t_ T4; refine (laws_toLoadS.calls k _ _ l0 a _ (Kd.C_below HR.out HB.out) HC.out H2.out).mono ?_; rintro e w4 ⟨v4, rfl, ho, hb⟩; have n2_ := Aside0.mk (Kd.R_mono (Kd.R_bound ho) (fun k_ hk => (show n3 ≤ k_ ∧ k_ < w4.heap.size from ⟨by rw [← N3.out]; exact hk.2.1, hk.2.2.1⟩))); have n0_ := Aside0.mk (below_step HB.out hb); have n1_ := Aside0.mk (Kd.R_below HW.out hb); have n4_ := Aside0.mk (show n3 ≤ w4.heap.size by rw [← N3.out]; exact hb.size); have n3_ := Aside0.mk (Kd.R_lower n2_.out HB.out.size); clear HB HW n2_; have HB := n0_; have HW := n1_; have HX := n3_; have LE := n4_; clear n0_ n1_ n3_ n4_ ho hb; obtain ⟨n4, hn4⟩ : ∃ n, w4.heap.size = n := ⟨_, rfl⟩; rw [hn4] at HX LE; have N4 := Aside0.mk hn4; clear hn4; obtain ⟨A4, c4, e4⟩ := Kd.R_slice HX.out; subst e4)
    | (go_at_call 43; have t_ := T5; clear t_ T5; refine (impl_MomentOf.calls k _ _ a g1 g2 _ (Kd.R_reads' HX.out).2.2 (Kd.R_reads' HX.out).2.1 H4.out).mono ?_; rintro e w5 ⟨v5, rfl, ho, hb⟩; have n2_ := Aside0.mk (Kd.R_mono (Kd.R_bound ho) (fun k_ hk => (show n4 ≤ k_ from by rw [← N4.out]; exact hk.2.1))); have n0_ := Aside0.mk (below_step HB.out hb); have n1_ := Aside0.mk (Kd.R_below HW.out hb); have n4_ := Aside0.mk (Kd.R_below HX.out hb); have n3_ := Aside0.mk (Kd.R_lower n2_.out HB.out.size); clear HB HW HX n2_; have HB := n0_; have HW := n1_; have HG := n3_; have HX := n4_; clear n0_ n1_ n3_ n4_ ho hb; obtain ⟨A5, c5, e5⟩ := Kd.R_slice HG.out; subst e5)
    | (go_at_call 27; have t_ := T6; clear t_ T6; refine (laws_eqInt64S.calls k _ _ g1 _ _ ws true _ (Kd.R_reads' HG.out).2.2 (Kd.R_reads' HG.out).2.1 (Kd.R_reads' HW.out).2.2 (Kd.R_reads' HW.out).2.1 H5.out).mono ?_; rintro e w6 ⟨rfl, ⟨nd6, rfl⟩⟩; have n0_ := Aside0.mk (pw_below_drewN HB.out nd6); have n1_ := Aside0.mk (Kd.R_drewN HW.out nd6); have n2_ := Aside0.mk (Kd.R_drewN HX.out nd6); have n3_ := Aside0.mk (Kd.R_drewN HG.out nd6); clear HB HW HX HG; have HB := n0_; have HW := n1_; have HX := n2_; have HG := n3_; clear n0_ n1_ n2_ n3_)
    | (go_at_call 39; have t_ := T7; clear t_ T7; refine (laws_toLoadS.calls k _ _ l0 a _ (Kd.C_below HR.out HB.out) HC.out H2.out).mono ?_; rintro e w7 ⟨v7, rfl, ho, hb⟩; have n0_ := Aside0.mk (below_step HB.out hb); have n1_ := Aside0.mk (Kd.R_below HW.out hb); have n2_ := Aside0.mk (Kd.R_below HX.out hb); have n3_ := Aside0.mk (Kd.R_below HG.out hb); have n4_ := Aside0.mk (Kd.R_reads ho); clear HB HW HX HG; have HB := n0_; have HW := n1_; have HX := n2_; have HG := n3_; have OA := n4_; clear n0_ n1_ n2_ n3_ n4_ ho hb; obtain ⟨A7, c7, e7, l7, r7⟩ := OA.out; subst e7; have CA := Aside0.mk r7; have LA := Aside0.mk l7; clear OA r7 l7)
    | (go_at_call 41; refine (laws_eqLoadS.calls k _ _ a _ _ a true _ (Kd.R_reads' HX.out).2.2 (Kd.R_reads' HX.out).2.1 CA.out LA.out H6.out).mono ?_; rintro e w8 ⟨rfl, hb⟩; (first | (obtain ⟨nd8, rfl⟩ := hb; have n0_ := Aside0.mk (pw_below_drewN HB.out nd8); have n1_ := Aside0.mk (Kd.R_drewN HW.out nd8); have n2_ := Aside0.mk (Kd.R_drewN HX.out nd8); have n3_ := Aside0.mk (Kd.R_drewN HG.out nd8); clear HB HW HX HG; have HB := n0_; have HW := n1_; have HX := n2_; have HG := n3_; clear n0_ n1_ n2_ n3_) | (have n0_ := Aside0.mk (below_step HB.out hb); have n1_ := Aside0.mk (Kd.R_below HW.out hb); have n2_ := Aside0.mk (Kd.R_below HX.out hb); have n3_ := Aside0.mk (Kd.R_below HG.out hb); clear HB HW HX HG; have HB := n0_; have HW := n1_; have HX := n2_; have HG := n3_; clear n0_ n1_ n2_ n3_ hb)); clear CA LA)
    | (go_at_call 44; refine (laws_markLoadS.calls_ (fun k_ => n3 ≤ k_ ∧ k_ < n4) _ a 1 m1 w _ HB.out HX.out H7.out).mono ?_; rintro e w9 ⟨rfl, hb, hk⟩; have n1_ := Aside0.mk (Kd.R_kept HW.out hk (fun k_ a_ b_ => Nat.not_lt.2 b_.1 a_)); have n2_ := Aside0.mk (Kd.R_kept HG.out hk (fun k_ a_ b_ => Nat.not_lt.2 a_ b_.2)); clear HB HW HX HG hk; have HB := Aside0.mk hb; have HW := n1_; have HG := n2_; clear n1_ n2_ hb)
    | (go_at_call 27; have t_ := T10; clear t_ T10; refine (laws_eqInt64S.calls k _ _ g1 _ _ ws true _ (Kd.R_reads' HG.out).2.2 (Kd.R_reads' HG.out).2.1 (Kd.R_reads' HW.out).2.2 (Kd.R_reads' HW.out).2.1 H5.out).mono ?_; rintro e w10 ⟨rfl, ⟨nd10, rfl⟩⟩; have n0_ := Aside0.mk (pw_below_drewN HB.out nd10); have n1_ := Aside0.mk (Kd.R_drewN HW.out nd10); have n2_ := Aside0.mk (Kd.R_drewN HG.out nd10); clear HB HW HG; have HB := n0_; have HW := n1_; have HG := n2_; clear n0_ n1_ n2_)
    | (go_at_call 28; refine (laws_markInt64S.calls k 81 (fun k_ => n4 ≤ k_) _ g1 1 q gm w _ HB.out HG.out H8.out).mono ?_; rintro e w11 ⟨rfl, hy, hb, hk⟩; have n1_ := Aside0.mk (Kd.R_kept HW.out hk (fun k_ a_ b_ => by have := LE.out; omega)); have n2_ := Aside0.mk hy; clear HB HW HG hk hy; have HB := Aside0.mk hb; have HW := n1_; have HG := n2_; clear n1_ n2_ hb; have GR := Aside0.mk (Kd.R_reads HG.out); have GL := Aside0.mk (Kd.R_reads' HG.out).1)
    | (go_at_call 29; have t_ := T12; clear t_ T12; rw [GL.out]; refine (laws_heldInt64S.calls k _ _ gm 1 q _ (Kd.R_reads' HG.out).2.2 (by rw [← GL.out]; exact (Kd.R_reads' HG.out).2.1) H9.out).mono ?_; rintro e w12 ⟨rfl, ⟨nd12, rfl⟩⟩; have n0_ := Aside0.mk (pw_below_drewN HB.out nd12); have n1_ := Aside0.mk (Kd.R_drewN HW.out nd12); have n2_ := Aside0.mk (Kd.R_drewN HG.out nd12); clear HB HW HG; have HB := n0_; have HW := n1_; have HG := n2_; clear n0_ n1_ n2_)
    | (go_at_call 39; have t_ := T13; clear t_ T13; refine (laws_toLoadS.calls k _ _ l0 a _ (Kd.C_below HR.out HB.out) HC.out H2.out).mono ?_; rintro e w13 ⟨v13, rfl, ho, hb⟩; have n0_ := Aside0.mk (below_step HB.out hb); have n1_ := Aside0.mk (Kd.R_below HW.out hb); have n3_ := Aside0.mk (Kd.R_below HG.out hb); have n4_ := Aside0.mk (Kd.R_reads ho); clear HB HW HG; have HB := n0_; have HW := n1_; have HG := n3_; have OA := n4_; clear n0_ n1_ n3_ n4_ ho hb; obtain ⟨A13, c13, e13, l13, r13⟩ := OA.out; subst e13; have CA := Aside0.mk r13; have LA := Aside0.mk l13; clear OA r13 l13)
    | (go_at_call 43; have t_ := T14; clear t_ T14; refine (impl_MomentOf.calls k _ _ a g1 g2 _ CA.out LA.out H4.out).mono ?_; rintro e w14 ⟨v14, rfl, ho, hb⟩; have n0_ := Aside0.mk (below_step HB.out hb); have n1_ := Aside0.mk (Kd.R_below HW.out hb); have n3_ := Aside0.mk (Kd.R_below HG.out hb); have n4_ := Aside0.mk (Kd.R_reads ho); clear HB HW HG CA LA; have HB := n0_; have HW := n1_; have HG := n3_; have OA := n4_; clear n0_ n1_ n3_ n4_ ho hb; obtain ⟨A14, c14, e14, l14, r14⟩ := OA.out; subst e14; have CA := Aside0.mk r14; have LA := Aside0.mk l14; clear OA r14 l14)
    | (go_at_call 27; have t_ := T15; clear t_ T15; refine (laws_eqInt64S.calls k _ _ g1 _ _ ws true _ CA.out LA.out (Kd.R_reads' HW.out).2.2 (Kd.R_reads' HW.out).2.1 H5.out).mono ?_; rintro e w15 ⟨rfl, ⟨nd15, rfl⟩⟩; have n0_ := Aside0.mk (pw_below_drewN HB.out nd15); have n1_ := Aside0.mk (Kd.R_drewN HW.out nd15); have n2_ := Aside0.mk (Kd.R_drewN HG.out nd15); clear HB HW HG; have HB := n0_; have HW := n1_; have HG := n2_; clear n0_ n1_ n2_)
    | (go_at_call 29; have t_ := T16; clear t_ T16; rw [GL.out]; refine (laws_heldInt64S.calls k _ _ gm 1 q _ (Kd.R_reads' HG.out).2.2 (by rw [← GL.out]; exact (Kd.R_reads' HG.out).2.1) H9.out).mono ?_; rintro e w16 ⟨rfl, ⟨nd16, rfl⟩⟩; have n0_ := Aside0.mk (pw_below_drewN HB.out nd16); have n1_ := Aside0.mk (Kd.R_drewN HW.out nd16); have n2_ := Aside0.mk (Kd.R_drewN HG.out nd16); clear HB HW HG; have HB := n0_; have HW := n1_; have HG := n2_; clear n0_ n1_ n2_))
  go_ret
  exact ⟨rfl, by have q := HB.out; (try rw [World.drewN_drewN] at q); exact q⟩

def laws_FnExactMomentOf.Pure : Prop := ∀ (l0 : List (S74)), l0.length ≤ maxLen → l0.length * 24 ≤ 140737488351232 → (∀ x ∈ l0, (Lit.int .i64 x.f0).wf = true ∧ (Lit.int .i64 x.f1.f0).wf = true ∧ (Lit.int .i64 x.f1.f1).wf = true) → ∃ k, laws_FnExactMomentOf.f k l0 = some true
theorem laws_FnExactMomentOf.walk (P : laws_FnExactMomentOf.Pure) (a0 : Option Addr) (len0 cap0 : Nat) (l0 : List S74) (w : World) (w0 : Kd.C k74 w a0 len0 l0 ∧ len0 ≤ cap0 ∧ len0 ≤ maxLen ∧ ∀ x ∈ l0, (Lit.int .i64 x.f0).wf = true ∧ (Lit.int .i64 x.f1.f0).wf = true ∧ (Lit.int .i64 x.f1.f1).wf = true) (y0 : len0 * 24 ≤ 140737488351232) :
    Calls Try.prog 11 #[.slice a0 len0 cap0] w fun e w' => e = .returned (.bool true) ∧ Below w.heap.size w w' := by
  obtain ⟨hr0, hc0, hm0, hw0⟩ := w0
  obtain rfl : l0.length = len0 := hr0.1
  obtain ⟨k, h⟩ := P l0 hm0 y0 hw0
  refine (laws_FnExactMomentOf.calls k _ _ l0 true w hr0 hc0 h).mono ?_
  rintro e w' ⟨rfl, hd⟩
  exact ⟨rfl, hd⟩

end Go.Proofs.Ytncejfhmachapaa.QFnExactMomentOf
