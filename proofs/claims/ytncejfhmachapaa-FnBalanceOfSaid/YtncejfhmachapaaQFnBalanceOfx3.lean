/- Walks of the Go functions that the law FnBalanceOf reaches: written by a program of this session. -/
import Derived.Test.YtncejfhmachapaaQFnBalanceOfx0
import Derived.Test.YtncejfhmachapaaQFnBalanceOfx1
import Derived.Test.YtncejfhmachapaaQFnBalanceOfx2
namespace Go.Proofs.Ytncejfhmachapaa.QFnBalanceOf
open Go.RowKit Go.Proofs.YtncejfhmachapaaW.PrintWords Go.Proofs.YtncejfhmachapaaW.PrintLast Go.Proofs.YtncejfhmachapaaW.PrintMore
attribute [local go_sem] max2_int min2_int max_two min_two max_three min_three max_four min_four   -- for this text's walks alone
open Go.Proofs.YtncejfhmachapaaW.PrintWords renaming below_alloc → ae, below_drew1 → ac, below_set → ai, below_size → aw, below_step → ap, blk_alloc → ak, blk_below → bf, blk_cell → am, blk_drew → al, blk_drewN → aj, blk_frozen → ao, blk_put → bh, gate_dst → bi, pw_below_drewN → ab
open Go.Proofs.YtncejfhmachapaaW.PrintWords.Aside0 renaming mk → aa
open Go.Proofs.YtncejfhmachapaaW.PrintWords.Kd renaming C_alloc → ay, C_drew → ba, C_drewN → az, R_lower → bg, R_reads' → an, R_slice → bc, at_int → be
open Option renaming bind_eq_some_iff → bl
set_option linter.unusedVariables false
set_option linter.unusedSimpArgs false

/-! ### impl_moment_with: function 92 -/
def impl_moment_with.f (k : Nat) (a0_0 : Int) (a0_1 : Int) (a0_2 : Int) (a1_0 : Int) (a1_1 : Int) (a2 : Int) : Option (Int × Int × Int) := (impl_cosine.f k a1_0).bind fun t154 => ((impl_cosine.f k a1_1).bind fun t155 => ((impl_nearest.f (wrap64 (t154 * t155)) 1000000).bind fun t156 => ((impl_sine.f k a1_1).bind fun t157 => ((impl_nearest.f (wrap64 (t154 * t157)) 1000000).bind fun t158 => ((impl_sine.f k a1_0).bind fun t159 => (some (wrap64 (a0_0 + (wrap64 (a2 * t156))), wrap64 (a0_1 + (wrap64 (a2 * t158))), wrap64 (a0_2 + (wrap64 (a2 * t159))))))))))
theorem impl_moment_with.mono : ∀ a0 a1 a2 a3 a4 a5 k, LeO (impl_moment_with.f k a0 a1 a2 a3 a4 a5) (impl_moment_with.f (k + 1) a0 a1 a2 a3 a4 a5) := by
  intro a0 a1 a2 a3 a4 a5 k
  unfold impl_moment_with.f
  repeat' first
      | (with_reducible exact impl_cosine.mono _ _)
      | (with_reducible exact impl_sine.mono _ _)
      | (with_reducible exact LeO.refl _)
      | (with_reducible exact LeO.none _)
      | (with_reducible refine LeO.ite ?_ ?_)
      | (with_reducible refine LeO.bind ?_ (fun _ => ?_))
      | exact impl_cosine.mono _ _
      | exact impl_sine.mono _ _
      | exact LeO.none _
      | refine LeO.ite ?_ ?_
      | refine LeO.bind ?_ (fun _ => ?_)
def impl_moment_with.T2 : Bool × List (List Nat × List Nat) := (true, [([], []), ([0], [0]), ([], []), ([], []), ([], []), ([4], [4]), ([5], [5]), ([3, 6], [3, 6]), ([7, 6], [7]), ([2, 8], [2, 8]), ([1, 9], [1, 9]), ([0, 1, 2, 3, 4, 5, 6, 7, 8, 9, 10], []), ([11, 10, 8, 0, 1, 2, 3, 4, 5, 6, 7, 8, 9, 10], [10, 11])])
def impl_moment_with.B2 : List Nat := [0, 1, 0, 0, 0, 16, 48, 120, 248, 508, 1023, 2047, 4095]
theorem impl_moment_with.tab2 : rtab .any (opsOf Try.f92 2) = impl_moment_with.T2 := by kernel_rfl
theorem impl_moment_with.bits2 : waitsOk impl_moment_with.T2.2 impl_moment_with.B2 = true := by kernel_rfl
def impl_moment_with.T3 : Bool × List (List Nat × List Nat) := (true, [([], []), ([0], [0]), ([], []), ([], []), ([], []), ([4], [4]), ([5], [5]), ([3, 6], [3, 6]), ([7, 6], [7]), ([2, 8], [2, 8]), ([1, 9], [1, 9]), ([0, 1, 2, 3, 4, 5, 6, 7, 8, 9, 10], []), ([11, 10, 8, 0, 1, 2, 3, 4, 5, 6, 7, 8, 9, 10], [10, 11])])
def impl_moment_with.B3 : List Nat := [0, 1, 0, 0, 0, 16, 48, 120, 248, 508, 1023, 2047, 4095]
theorem impl_moment_with.tab3 : rtab .any (opsOf Try.f92 3) = impl_moment_with.T3 := by kernel_rfl
theorem impl_moment_with.bits3 : waitsOk impl_moment_with.T3.2 impl_moment_with.B3 = true := by kernel_rfl
def impl_moment_with.T4 : Bool × List (List Nat × List Nat) := (true, [([], []), ([0], [0]), ([], []), ([], []), ([3], [3]), ([4], [4]), ([2, 5], [2, 5]), ([1, 6], [1, 6]), ([0, 1, 2, 3, 4, 5, 6, 7], []), ([8, 7, 5, 0, 1, 2, 3, 4, 5, 6, 7], [7, 8])])
def impl_moment_with.B4 : List Nat := [0, 1, 0, 0, 8, 24, 60, 127, 255, 511]
theorem impl_moment_with.tab4 : rtab .any (opsOf Try.f92 4) = impl_moment_with.T4 := by kernel_rfl
theorem impl_moment_with.bits4 : waitsOk impl_moment_with.T4.2 impl_moment_with.B4 = true := by kernel_rfl
set_option maxHeartbeats 8000000 in
set_option maxRecDepth 100000 in
theorem impl_moment_with.calls (k : Nat) (a0_0 : Int) (a0_1 : Int) (a0_2 : Int) (a1_0 : Int) (a1_1 : Int) (a2 : Int) (r1 : Int) (r2 : Int) (r3 : Int) (w : World) (h : impl_moment_with.f k a0_0 a0_1 a0_2 a1_0 a1_1 a2 = some (r1, r2, r3)) :
    Calls Try.prog 92 #[.agg #[.int .i64 a0_0, .int .i64 a0_1, .int .i64 a0_2], .agg #[.int .i64 a1_0, .int .i64 a1_1], .int .i64 a2] w fun e w' => e = .returned (.agg #[.int .i64 r1, .int .i64 r2, .int .i64 r3]) ∧ Below w.heap.size w w' := by
  have hu81 := Try.underlying81
  have hu62 := Try.underlying62
  have HB := aa (Below.refl w.heap.size w)
  have H : ((impl_cosine.f k a1_0).bind fun t154 => ((impl_cosine.f k a1_1).bind fun t155 => ((impl_nearest.f (wrap64 (t154 * t155)) 1000000).bind fun t156 => ((impl_sine.f k a1_1).bind fun t157 => ((impl_nearest.f (wrap64 (t154 * t157)) 1000000).bind fun t158 => ((impl_sine.f k a1_0).bind fun t159 => (some (wrap64 (a0_0 + (wrap64 (a2 * t156))), wrap64 (a0_1 + (wrap64 (a2 * t158))), wrap64 (a0_2 + (wrap64 (a2 * t159))))))))))) = some (r1, r2, r3) := h
  clear h
  replace H := bl.mp H
  obtain ⟨t154, A40, H⟩ := H
  (try dsimp only at H)
  have A4 := aa A40
  clear A40
  replace H := bl.mp H
  obtain ⟨t155, A50, H⟩ := H
  (try dsimp only at H)
  have A5 := aa A50
  clear A50
  replace H := bl.mp H
  obtain ⟨t156, A60, H⟩ := H
  (try dsimp only at H)
  have A6 := aa A60
  clear A60
  replace H := bl.mp H
  obtain ⟨t157, A70, H⟩ := H
  (try dsimp only at H)
  have A7 := aa A70
  clear A70
  replace H := bl.mp H
  obtain ⟨t158, A80, H⟩ := H
  (try dsimp only at H)
  have A8 := aa A80
  clear A80
  replace H := bl.mp H
  obtain ⟨t159, A90, H⟩ := H
  (try dsimp only at H)
  have A9 := aa A90
  clear A90
  simp only [Option.some.injEq, Prod.mk.injEq] at H
  obtain ⟨rfl, rfl, rfl⟩ := H
  go_enter Try.func92, Try.ntmps92
  try go_wp2_with (first | ((with_reducible refine bi (N := 3) rfl ?_); refine box_event ?hg (N := 3) ?hd (cs := #[.int .i64 a0_0, .int .i64 a0_1, .int .i64 a0_2]) (t := 81) ?hr ?_; (case hd => rfl); (case hg => rfl); (case hr => first | (go_simp; done) | (go_simp; rfl)); intro gb151 hg w10 hbox hb; have n0_ := aa (ap (by repeat (first | (with_reducible first | exact HB.out | apply ae | apply ab | apply ac) | exact HB.out)) hb); have n1_ := aa (hbox); have n2_ := aa ((by rw [hg]; exact (aw (by repeat (first | (with_reducible first | exact HB.out | apply ae | apply ab | apply ac) | exact HB.out))) : w.heap.size ≤ gb151)); have n3_ := aa ((by rw [hg]; exact (aw (by repeat (first | (with_reducible first | exact HB.out | apply ae | apply ab | apply ac) | exact HB.out))) : w.heap.size ≤ gb151)); clear HB; have HB := n0_; have BK151 := n1_; have GW151 := n2_; have GE151 := n3_; clear n0_ n1_ n2_ n3_; clear hb hbox hg) | ((with_reducible refine bi (N := 4) rfl ?_); refine box_event ?hg (N := 4) ?hd (cs := #[.int .i64 a1_0, .int .i64 a1_1]) (t := 62) ?hr ?_; (case hd => rfl); (case hg => rfl); (case hr => first | (go_simp; done) | (go_simp; rfl)); intro gb152 hg w11 hbox hb; have n0_ := aa (bf (g := gb151) (o := .cells #[.int .i64 a0_0, .int .i64 a0_1, .int .i64 a0_2] 81 (0, 0)) (by (with_reducible repeat (first | refine aj ?_ _ | refine al ?_ | refine ak ?_ _)); exact BK151.out) hb); have n1_ := aa (ap (by repeat (first | (with_reducible first | exact HB.out | apply ae | apply ab | apply ac | refine ai ?_ GE151.out) | exact HB.out)) hb); have n2_ := aa (hbox); have n3_ := aa ((by rw [hg]; exact (aw (by repeat (first | (with_reducible first | exact HB.out | apply ae | apply ab | apply ac | refine ai ?_ GE151.out) | exact HB.out))) : w.heap.size ≤ gb152)); have n4_ := aa ((by rw [hg]; exact (aw (by repeat (first | (with_reducible first | exact HB.out | apply ae | apply ab | apply ac | refine ai ?_ GE151.out) | exact HB.out))) : w.heap.size ≤ gb152)); have n5_ := aa ((by rw [hg]; exact Nat.ne_of_lt (blk_lt (g := gb151) (o := .cells #[.int .i64 a0_0, .int .i64 a0_1, .int .i64 a0_2] 81 (0, 0)) (by (with_reducible repeat (first | refine aj ?_ _ | refine al ?_ | refine ak ?_ _)); exact BK151.out)) : gb151 ≠ gb152)); have n6_ := aa ((by rw [hg]; exact Nat.ne_of_gt (blk_lt (g := gb151) (o := .cells #[.int .i64 a0_0, .int .i64 a0_1, .int .i64 a0_2] 81 (0, 0)) (by (with_reducible repeat (first | refine aj ?_ _ | refine al ?_ | refine ak ?_ _)); exact BK151.out)) : gb152 ≠ gb151)); clear BK151; clear HB; have BK151 := n0_; have HB := n1_; have BK152 := n2_; have GW152 := n3_; have GE152 := n4_; have NB151_152 := n5_; have NB152_151 := n6_; clear n0_ n1_ n2_ n3_ n4_ n5_ n6_; clear hb hbox hg) | ((with_reducible refine bi (N := 6) rfl ?_); refine box_event ?hg (N := 6) ?hd (cs := #[.int .i64 0, .int .i64 0, .int .i64 0]) (t := 81) ?hr ?_; (case hd => rfl); (case hg => rfl); (case hr => first | (go_simp; done) | (go_simp; rfl)); intro gb153 hg w12 hbox hb; have n0_ := aa (bf (g := gb151) (o := .cells #[.int .i64 a0_0, .int .i64 a0_1, .int .i64 a0_2] 81 (0, 0)) (by (with_reducible repeat (first | refine aj ?_ _ | refine al ?_ | refine ak ?_ _)); exact BK151.out) hb); have n1_ := aa (bf (g := gb152) (o := .cells #[.int .i64 a1_0, .int .i64 a1_1] 62 (0, 0)) (by (with_reducible repeat (first | refine aj ?_ _ | refine al ?_ | refine ak ?_ _)); exact BK152.out) hb); have n2_ := aa (ap (by repeat (first | (with_reducible first | exact HB.out | apply ae | apply ab | apply ac | refine ai ?_ GE151.out | refine ai ?_ GE152.out) | exact HB.out)) hb); have n3_ := aa (hbox); have n4_ := aa ((by rw [hg]; exact (aw (by repeat (first | (with_reducible first | exact HB.out | apply ae | apply ab | apply ac | refine ai ?_ GE151.out | refine ai ?_ GE152.out) | exact HB.out))) : w.heap.size ≤ gb153)); have n5_ := aa ((by rw [hg]; exact (aw (by repeat (first | (with_reducible first | exact HB.out | apply ae | apply ab | apply ac | refine ai ?_ GE151.out | refine ai ?_ GE152.out) | exact HB.out))) : w.heap.size ≤ gb153)); have n6_ := aa ((by rw [hg]; exact Nat.ne_of_lt (blk_lt (g := gb151) (o := .cells #[.int .i64 a0_0, .int .i64 a0_1, .int .i64 a0_2] 81 (0, 0)) (by (with_reducible repeat (first | refine aj ?_ _ | refine al ?_ | refine ak ?_ _)); exact BK151.out)) : gb151 ≠ gb153)); have n7_ := aa ((by rw [hg]; exact Nat.ne_of_gt (blk_lt (g := gb151) (o := .cells #[.int .i64 a0_0, .int .i64 a0_1, .int .i64 a0_2] 81 (0, 0)) (by (with_reducible repeat (first | refine aj ?_ _ | refine al ?_ | refine ak ?_ _)); exact BK151.out)) : gb153 ≠ gb151)); have n8_ := aa ((by rw [hg]; exact Nat.ne_of_lt (blk_lt (g := gb152) (o := .cells #[.int .i64 a1_0, .int .i64 a1_1] 62 (0, 0)) (by (with_reducible repeat (first | refine aj ?_ _ | refine al ?_ | refine ak ?_ _)); exact BK152.out)) : gb152 ≠ gb153)); have n9_ := aa ((by rw [hg]; exact Nat.ne_of_gt (blk_lt (g := gb152) (o := .cells #[.int .i64 a1_0, .int .i64 a1_1] 62 (0, 0)) (by (with_reducible repeat (first | refine aj ?_ _ | refine al ?_ | refine ak ?_ _)); exact BK152.out)) : gb153 ≠ gb152)); clear BK151; clear BK152; clear HB; have BK151 := n0_; have BK152 := n1_; have HB := n2_; have BK153 := n3_; have GW153 := n4_; have GE153 := n5_; have NB151_153 := n6_; have NB153_151 := n7_; have NB152_153 := n8_; have NB153_152 := n9_; clear n0_ n1_ n2_ n3_ n4_ n5_ n6_ n7_ n8_ n9_; clear hb hbox hg; have hnb13 := NB152_151.out; have hnc13 := NB151_152.out; have hnb14 := NB152_153.out; have hnc14 := NB153_152.out; have hcz15_0 : w12.cell? ⟨gb152, 0, none⟩ = some (.int .i64 a1_0) := (am BK152.out 0).trans rfl; have hcz15_1 : w12.cell? ⟨gb152, 1, none⟩ = some (.int .i64 a1_1) := (am BK152.out 1).trans rfl; have hfz15_0 := ao BK152.out 0; have hfz15_1 := ao BK152.out 1) | ((with_reducible refine gate_callee (f := 108) rfl ?_); refine goesL_ (some 10) rfl rfl Try.func108 (by kernel_rfl) rfl #[.int .i64 a1_0] rfl (by (try simp only [List.map_toArray, List.map_cons, List.map_nil]); first | done | rfl | (simp only [List.length_drop, List.length_take]; rfl)) ?_; (with_reducible refine (impl_cosine.calls k a1_0 t154 _ A4.out).mono ?_); rintro e w' ⟨rfl, ⟨nd, rfl⟩⟩; refine ⟨_, rfl, ?_⟩; (try (rw [drewN_self w12]; generalize hq_ : World.drewN w12 _ = w12; have n0_ : Aside0 (w12.heap[gb151]? = some (.cells #[.int .i64 a0_0, .int .i64 a0_1, .int .i64 a0_2] 81 (0, 0))) := ⟨by rw [← hq_]; exact (by (with_reducible repeat (first | refine aj ?_ _ | refine al ?_ | refine ak ?_ _)); exact BK151.out)⟩; have n1_ : Aside0 (w12.heap[gb152]? = some (.cells #[.int .i64 a1_0, .int .i64 a1_1] 62 (0, 0))) := ⟨by rw [← hq_]; exact (by (with_reducible repeat (first | refine aj ?_ _ | refine al ?_ | refine ak ?_ _)); exact BK152.out)⟩; have n2_ : Aside0 (w12.heap[gb153]? = some (.cells #[.int .i64 0, .int .i64 0, .int .i64 0] 81 (0, 0))) := ⟨by rw [← hq_]; exact (by (with_reducible repeat (first | refine aj ?_ _ | refine al ?_ | refine ak ?_ _)); exact BK153.out)⟩; have n3_ : Aside0 (Below w.heap.size w w12) := ⟨by rw [← hq_]; exact (by repeat (first | (with_reducible first | exact HB.out | apply ae | apply ab | apply ac | refine ai ?_ GE151.out | refine ai ?_ GE152.out | refine ai ?_ GE153.out) | exact HB.out))⟩; clear BK151 BK152 BK153 HB hq_; have BK151 := n0_; have BK152 := n1_; have BK153 := n2_; have HB := n3_; clear n0_ n1_ n2_ n3_))))
  have n0_ := aa (al BK151.out)
  have n1_ := aa (al BK152.out)
  have n2_ := aa (al BK153.out)
  have n3_ := aa (ac HB.out)
  clear BK151
  clear BK152
  clear BK153
  clear HB
  have BK151 := n0_
  have BK152 := n1_
  have BK153 := n2_
  have HB := n3_
  clear n0_ n1_ n2_ n3_
  refine start_ (n := 13) (S := fun w' => w'.cell? ⟨gb151, 0, none⟩ = some (.int .i64 a0_0) ∧ w'.cell? ⟨gb151, 1, none⟩ = some (.int .i64 a0_1) ∧ w'.cell? ⟨gb151, 2, none⟩ = some (.int .i64 a0_2) ∧ w'.cell? ⟨gb152, 0, none⟩ = some (.int .i64 a1_0) ∧ w'.cell? ⟨gb152, 1, none⟩ = some (.int .i64 a1_1)) (ds := [12]) #[false, false, false, false, false, false, false, false, false, false, false, false, false] (by kernel_rfl) rfl rfl ⟨(am BK151.out 0).trans rfl, (am BK151.out 1).trans rfl, (am BK151.out 2).trans rfl, (am BK152.out 0).trans rfl, (am BK152.out 1).trans rfl⟩ (fun hHeld => ?_); refine with_tabW impl_moment_with.tab2 impl_moment_with.bits2 (fun HT_ HW_ => ?_)
  generalize w12.drew = w16 at BK151 BK152 BK153 HB hHeld ⊢
  refine pure_ (i := 0) (N := some 11) (v := ?_) (a' := ?_) #[true, false, false, false, false, false, false, false, false, false, false, false, false] rfl rfl (any_of HT_.out (by kernel_rfl)) (fun _ _ _ h => h) (Or.inl ⟨by rfl, ?_⟩) ?_ ?_
  rotate_left
  · intro w'
    go_simp
    with_reducible rfl
  rotate_left
  · simp only [Act.put, List.setIfInBounds_toArray, List.set_cons_zero, List.set_cons_succ, i64_w, i32_w]
    rfl
  refine pure_ (i := 2) (N := some 13) (v := ?_) (a' := ?_) #[true, false, true, false, false, false, false, false, false, false, false, false, false] rfl rfl (any_of HT_.out (by kernel_rfl)) (fun _ _ _ h => h) (Or.inl ⟨by rfl, ?_⟩) ?_ ?_
  rotate_left
  · intro w'
    go_simp
    with_reducible rfl
  rotate_left
  · simp only [Act.put, List.setIfInBounds_toArray, List.set_cons_zero, List.set_cons_succ, i64_w, i32_w]
    rfl
  refine pure_ (i := 3) (N := some 14) (v := ?_) (a' := ?_) #[true, false, true, true, false, false, false, false, false, false, false, false, false] rfl rfl (any_of HT_.out (by kernel_rfl)) (fun _ _ _ h => h) (Or.inl ⟨by rfl, ?_⟩) ?_ ?_
  rotate_left
  · intro w'
    go_simp
    with_reducible rfl
  rotate_left
  · simp only [Act.put, List.setIfInBounds_toArray, List.set_cons_zero, List.set_cons_succ, i64_w, i32_w]
    rfl
  refine pure_ (i := 4) (N := some 15) (v := ?_) (a' := ?_) #[true, false, true, true, true, false, false, false, false, false, false, false, false] rfl rfl (any_of HT_.out (by kernel_rfl)) (fun _ _ _ h => h) (Or.inl ⟨by rfl, ?_⟩) ?_ ?_
  rotate_left
  · intro w'
    go_simp
    with_reducible rfl
  rotate_left
  · simp only [Act.put, List.setIfInBounds_toArray, List.set_cons_zero, List.set_cons_succ, i64_w, i32_w]
    rfl
  refine take_ (i := 1) (N := some 12) (v := ?_) (a' := ?_) #[true, true, true, true, true, false, false, false, false, false, false, false, false] rfl rfl (take_ofW HT_.out HW_.out (by kernel_rfl)) (fun _ _ _ h => h) (Or.inl ⟨by rfl, ?_⟩) hHeld ?_ ?_
  rotate_left
  · rintro w' ⟨s0, s1, s2, s3, s4⟩
    go_simp
    with_reducible rfl
  rotate_left
  · simp only [Act.put, List.setIfInBounds_toArray, List.set_cons_zero, List.set_cons_succ, i64_w, i32_w]
    rfl
  refine take_ (i := 5) (N := some 16) (v := ?_) (a' := ?_) #[true, true, true, true, true, true, false, false, false, false, false, false, false] rfl rfl (take_ofW HT_.out HW_.out (by kernel_rfl)) (fun _ _ _ h => h) (Or.inl ⟨by rfl, ?_⟩) hHeld ?_ ?_
  rotate_left
  · rintro w' ⟨s0, s1, s2, s3, s4⟩
    go_simp
    with_reducible rfl
  rotate_left
  · simp only [Act.put, List.setIfInBounds_toArray, List.set_cons_zero, List.set_cons_succ, i64_w, i32_w]
    rfl
  refine one_ (i := 6) (N := some 17) #[true, true, true, true, true, true, true, false, false, false, false, false, false] rfl rfl (one_of HT_.out (by kernel_rfl)) (by decide) (fun K hK => ?_)
  refine goes_ Try.func108 (by kernel_rfl) rfl #[.int .i64 a1_1] (by rfl) rfl rfl (by (try simp only [List.map_toArray, List.map_cons, List.map_nil]); first | done | rfl | (simp only [List.length_drop, List.length_take]; rfl)) ?_
  with_reducible refine (impl_cosine.calls k a1_1 t155 _ A5.out).mono ?_
  rintro e w' ⟨rfl, ⟨nd, rfl⟩⟩
  refine ⟨_, rfl, ?_⟩
  refine hK.out _ _ ⟨(am BK151.out 0).trans rfl, (am BK151.out 1).trans rfl, (am BK151.out 2).trans rfl, (am BK152.out 0).trans rfl, (am BK152.out 1).trans rfl⟩ (fun hHeld => ?_)
  clear hK K
  refine norm_ (a' := ?_) ?_ ?_
  rotate_left
  · show Act.put _ (some 17) _ = _
    simp only [Act.put, List.setIfInBounds_toArray, List.set_cons_zero, List.set_cons_succ, i64_w, i32_w]
    rfl
  refine pure_ (i := 7) (N := some 18) (v := ?_) (a' := ?_) #[true, true, true, true, true, true, true, true, false, false, false, false, false] rfl rfl (any_of HT_.out (by kernel_rfl)) (fun _ _ _ h => h) (Or.inl ⟨by rfl, ?_⟩) ?_ ?_
  rotate_left
  · intro w'
    go_simp
    with_reducible rfl
  rotate_left
  · simp only [Act.put, List.setIfInBounds_toArray, List.set_cons_zero, List.set_cons_succ, i64_w, i32_w]
    rfl
  refine one_ (i := 8) (N := some 19) #[true, true, true, true, true, true, true, true, true, false, false, false, false] rfl rfl (one_of HT_.out (by kernel_rfl)) (by decide) (fun K hK => ?_)
  refine goes_ Try.func99 (by kernel_rfl) rfl #[.int .i64 (wrap64 (t154 * t155)), .int .i64 1000000] (by rfl) rfl rfl (by (try simp only [List.map_toArray, List.map_cons, List.map_nil]); first | done | rfl | (simp only [List.length_drop, List.length_take]; rfl)) ?_
  with_reducible refine (impl_nearest.calls (wrap64 (t154 * t155)) 1000000 t156 _ A6.out).mono ?_
  rintro e w' ⟨rfl, ⟨nd, rfl⟩⟩
  refine ⟨_, rfl, ?_⟩
  refine hK.out _ _ ⟨(am BK151.out 0).trans rfl, (am BK151.out 1).trans rfl, (am BK151.out 2).trans rfl, (am BK152.out 0).trans rfl, (am BK152.out 1).trans rfl⟩ (fun hHeld => ?_)
  clear hK K
  refine norm_ (a' := ?_) ?_ ?_
  rotate_left
  · show Act.put _ (some 19) _ = _
    simp only [Act.put, List.setIfInBounds_toArray, List.set_cons_zero, List.set_cons_succ, i64_w, i32_w]
    rfl
  refine pure_ (i := 9) (N := some 20) (v := ?_) (a' := ?_) #[true, true, true, true, true, true, true, true, true, true, false, false, false] rfl rfl (any_of HT_.out (by kernel_rfl)) (fun _ _ _ h => h) (Or.inl ⟨by rfl, ?_⟩) ?_ ?_
  rotate_left
  · intro w'
    go_simp
    with_reducible rfl
  rotate_left
  · simp only [Act.put, List.setIfInBounds_toArray, List.set_cons_zero, List.set_cons_succ, i64_w, i32_w]
    rfl
  refine pure_ (i := 10) (N := some 21) (v := ?_) (a' := ?_) #[true, true, true, true, true, true, true, true, true, true, true, false, false] rfl rfl (any_of HT_.out (by kernel_rfl)) (fun _ _ _ h => h) (Or.inl ⟨by rfl, ?_⟩) ?_ ?_
  rotate_left
  · intro w'
    go_simp
    with_reducible rfl
  rotate_left
  · simp only [Act.put, List.setIfInBounds_toArray, List.set_cons_zero, List.set_cons_succ, i64_w, i32_w]
    rfl
  refine pure_ (i := 11) (N := some 22) (v := ?_) (a' := ?_) #[true, true, true, true, true, true, true, true, true, true, true, true, false] rfl rfl (any_of HT_.out (by kernel_rfl)) (fun _ _ _ h => h) (Or.inl ⟨by rfl, ?_⟩) ?_ ?_
  rotate_left
  · intro w'
    go_simp
    with_reducible rfl
  rotate_left
  · simp only [Act.put, List.setIfInBounds_toArray, List.set_cons_zero, List.set_cons_succ, i64_w, i32_w]
    rfl
  repeat ((generalize hq_ : World.drewN w16 _ = w16; have hh_ := congrArg World.heap hq_; simp only [World.heap_drewN] at hh_; rw [hh_] at BK151 BK152 BK153; have n3_ : Aside0 (Below w.heap.size w w16) := ⟨by rw [← hq_]; exact ab HB.out _⟩; clear HB hh_ hq_; have HB := n3_; clear n3_))
  refine last_ (i := 12) (N := none) #[true, true, true, true, true, true, true, true, true, true, true, true, true] rfl rfl (one_of HT_.out (by kernel_rfl)) (by decide) (fun K hK => ?_)
  have hs17 : w16.cell? ⟨gb151, 0, none⟩ = some (.int .i64 a0_0) := (am BK151.out 0).trans rfl
  have hfs17 := ao BK151.out 0
  have hns17_1 := NB152_151.out
  have hns17_2 := NB153_151.out
  have hms17_1 := NB151_152.out
  have hms17_2 := NB151_153.out
  refine skip_ (w1 := ?_) (by rfl) rfl ?_ ?_
  rotate_left
  · go_simp
    rfl
  refine hK.out _ _ ?_
  clear hK K
  refine done_ (done_of HT_.out (by kernel_rfl)) ?_
  try go_wp2
  have n0_ : Aside0 ((w16.setCell ⟨gb151, 0, none⟩ (.int .i64 (wrap64 (a0_0 + (wrap64 (a2 * t156)))))).heap[gb151]? = some (.cells #[.int .i64 (wrap64 (a0_0 + (wrap64 (a2 * t156)))), .int .i64 a0_1, .int .i64 a0_2] 81 (0, 0))) := ⟨by (with_reducible repeat (first | refine aj ?_ _ | refine al ?_ | refine ak ?_ _)); refine bh (cs := #[.int .i64 a0_0, .int .i64 a0_1, .int .i64 a0_2]) ?_ 0 _ rfl; (with_reducible repeat (first | refine aj ?_ _ | refine al ?_ | refine ak ?_ _)); exact BK151.out⟩
  have n1_ : Aside0 ((w16.setCell ⟨gb151, 0, none⟩ (.int .i64 (wrap64 (a0_0 + (wrap64 (a2 * t156)))))).heap[gb152]? = some (.cells #[.int .i64 a1_0, .int .i64 a1_1] 62 (0, 0))) := ⟨by (with_reducible repeat (first | refine aj ?_ _ | refine al ?_ | refine ak ?_ _)); refine blk_far ?_ NB152_151.out _; (with_reducible repeat (first | refine aj ?_ _ | refine al ?_ | refine ak ?_ _)); exact BK152.out⟩
  have n2_ : Aside0 ((w16.setCell ⟨gb151, 0, none⟩ (.int .i64 (wrap64 (a0_0 + (wrap64 (a2 * t156)))))).heap[gb153]? = some (.cells #[.int .i64 0, .int .i64 0, .int .i64 0] 81 (0, 0))) := ⟨by (with_reducible repeat (first | refine aj ?_ _ | refine al ?_ | refine ak ?_ _)); refine blk_far ?_ NB153_151.out _; (with_reducible repeat (first | refine aj ?_ _ | refine al ?_ | refine ak ?_ _)); exact BK153.out⟩
  have n3_ : Aside0 (Below w.heap.size w (w16.setCell ⟨gb151, 0, none⟩ (.int .i64 (wrap64 (a0_0 + (wrap64 (a2 * t156))))))) := ⟨by repeat (first | (with_reducible first | exact HB.out | apply ae | apply ab | apply ac | refine ai ?_ GE151.out | refine ai ?_ GE152.out | refine ai ?_ GE153.out) | exact HB.out)⟩
  (try clear BK151)
  (try clear BK152)
  (try clear BK153)
  (try clear HB)
  generalize (w16.setCell ⟨gb151, 0, none⟩ (.int .i64 (wrap64 (a0_0 + (wrap64 (a2 * t156)))))) = w18 at n0_ n1_ n2_ n3_ ⊢
  have BK151 := n0_
  have BK152 := n1_
  have BK153 := n2_
  have HB := n3_
  clear n0_ n1_ n2_ n3_
  (try (rw [drewN_self w18]; generalize hq_ : World.drewN w18 _ = w18; have n0_ : Aside0 (w18.heap[gb151]? = some (.cells #[.int .i64 (wrap64 (a0_0 + (wrap64 (a2 * t156)))), .int .i64 a0_1, .int .i64 a0_2] 81 (0, 0))) := ⟨by rw [← hq_]; exact (by (with_reducible repeat (first | refine aj ?_ _ | refine al ?_ | refine ak ?_ _)); exact BK151.out)⟩; have n1_ : Aside0 (w18.heap[gb152]? = some (.cells #[.int .i64 a1_0, .int .i64 a1_1] 62 (0, 0))) := ⟨by rw [← hq_]; exact (by (with_reducible repeat (first | refine aj ?_ _ | refine al ?_ | refine ak ?_ _)); exact BK152.out)⟩; have n2_ : Aside0 (w18.heap[gb153]? = some (.cells #[.int .i64 0, .int .i64 0, .int .i64 0] 81 (0, 0))) := ⟨by rw [← hq_]; exact (by (with_reducible repeat (first | refine aj ?_ _ | refine al ?_ | refine ak ?_ _)); exact BK153.out)⟩; have n3_ : Aside0 (Below w.heap.size w w18) := ⟨by rw [← hq_]; exact (by repeat (first | (with_reducible first | exact HB.out | apply ae | apply ab | apply ac | refine ai ?_ GE151.out | refine ai ?_ GE152.out | refine ai ?_ GE153.out) | exact HB.out))⟩; clear BK151 BK152 BK153 HB hq_; have BK151 := n0_; have BK152 := n1_; have BK153 := n2_; have HB := n3_; clear n0_ n1_ n2_ n3_))
  have n0_ := aa (al BK151.out)
  have n1_ := aa (al BK152.out)
  have n2_ := aa (al BK153.out)
  have n3_ := aa (ac HB.out)
  clear BK151
  clear BK152
  clear BK153
  clear HB
  have BK151 := n0_
  have BK152 := n1_
  have BK153 := n2_
  have HB := n3_
  clear n0_ n1_ n2_ n3_
  refine start_ (n := 13) (S := fun w' => w'.cell? ⟨gb151, 0, none⟩ = some (.int .i64 (wrap64 (a0_0 + (wrap64 (a2 * t156))))) ∧ w'.cell? ⟨gb151, 1, none⟩ = some (.int .i64 a0_1) ∧ w'.cell? ⟨gb151, 2, none⟩ = some (.int .i64 a0_2) ∧ w'.cell? ⟨gb152, 0, none⟩ = some (.int .i64 a1_0) ∧ w'.cell? ⟨gb152, 1, none⟩ = some (.int .i64 a1_1)) (ds := [12]) #[false, false, false, false, false, false, false, false, false, false, false, false, false] (by kernel_rfl) rfl rfl ⟨(am BK151.out 0).trans rfl, (am BK151.out 1).trans rfl, (am BK151.out 2).trans rfl, (am BK152.out 0).trans rfl, (am BK152.out 1).trans rfl⟩ (fun hHeld => ?_); refine with_tabW impl_moment_with.tab3 impl_moment_with.bits3 (fun HT_ HW_ => ?_)
  generalize w18.drew = w19 at BK151 BK152 BK153 HB hHeld ⊢
  refine pure_ (i := 0) (N := some 23) (v := ?_) (a' := ?_) #[true, false, false, false, false, false, false, false, false, false, false, false, false] rfl rfl (any_of HT_.out (by kernel_rfl)) (fun _ _ _ h => h) (Or.inl ⟨by rfl, ?_⟩) ?_ ?_
  rotate_left
  · intro w'
    go_simp
    with_reducible rfl
  rotate_left
  · simp only [Act.put, List.setIfInBounds_toArray, List.set_cons_zero, List.set_cons_succ, i64_w, i32_w]
    rfl
  refine pure_ (i := 2) (N := some 25) (v := ?_) (a' := ?_) #[true, false, true, false, false, false, false, false, false, false, false, false, false] rfl rfl (any_of HT_.out (by kernel_rfl)) (fun _ _ _ h => h) (Or.inl ⟨by rfl, ?_⟩) ?_ ?_
  rotate_left
  · intro w'
    go_simp
    with_reducible rfl
  rotate_left
  · simp only [Act.put, List.setIfInBounds_toArray, List.set_cons_zero, List.set_cons_succ, i64_w, i32_w]
    rfl
  refine pure_ (i := 3) (N := some 26) (v := ?_) (a' := ?_) #[true, false, true, true, false, false, false, false, false, false, false, false, false] rfl rfl (any_of HT_.out (by kernel_rfl)) (fun _ _ _ h => h) (Or.inl ⟨by rfl, ?_⟩) ?_ ?_
  rotate_left
  · intro w'
    go_simp
    with_reducible rfl
  rotate_left
  · simp only [Act.put, List.setIfInBounds_toArray, List.set_cons_zero, List.set_cons_succ, i64_w, i32_w]
    rfl
  refine pure_ (i := 4) (N := some 27) (v := ?_) (a' := ?_) #[true, false, true, true, true, false, false, false, false, false, false, false, false] rfl rfl (any_of HT_.out (by kernel_rfl)) (fun _ _ _ h => h) (Or.inl ⟨by rfl, ?_⟩) ?_ ?_
  rotate_left
  · intro w'
    go_simp
    with_reducible rfl
  rotate_left
  · simp only [Act.put, List.setIfInBounds_toArray, List.set_cons_zero, List.set_cons_succ, i64_w, i32_w]
    rfl
  refine take_ (i := 1) (N := some 24) (v := ?_) (a' := ?_) #[true, true, true, true, true, false, false, false, false, false, false, false, false] rfl rfl (take_ofW HT_.out HW_.out (by kernel_rfl)) (fun _ _ _ h => h) (Or.inl ⟨by rfl, ?_⟩) hHeld ?_ ?_
  rotate_left
  · rintro w' ⟨s0, s1, s2, s3, s4⟩
    go_simp
    with_reducible rfl
  rotate_left
  · simp only [Act.put, List.setIfInBounds_toArray, List.set_cons_zero, List.set_cons_succ, i64_w, i32_w]
    rfl
  refine take_ (i := 5) (N := some 28) (v := ?_) (a' := ?_) #[true, true, true, true, true, true, false, false, false, false, false, false, false] rfl rfl (take_ofW HT_.out HW_.out (by kernel_rfl)) (fun _ _ _ h => h) (Or.inl ⟨by rfl, ?_⟩) hHeld ?_ ?_
  rotate_left
  · rintro w' ⟨s0, s1, s2, s3, s4⟩
    go_simp
    with_reducible rfl
  rotate_left
  · simp only [Act.put, List.setIfInBounds_toArray, List.set_cons_zero, List.set_cons_succ, i64_w, i32_w]
    rfl
  refine one_ (i := 6) (N := some 29) #[true, true, true, true, true, true, true, false, false, false, false, false, false] rfl rfl (one_of HT_.out (by kernel_rfl)) (by decide) (fun K hK => ?_)
  refine goes_ Try.func109 (by kernel_rfl) rfl #[.int .i64 a1_1] (by rfl) rfl rfl (by (try simp only [List.map_toArray, List.map_cons, List.map_nil]); first | done | rfl | (simp only [List.length_drop, List.length_take]; rfl)) ?_
  with_reducible refine (impl_sine.calls k a1_1 t157 _ A7.out).mono ?_
  rintro e w' ⟨rfl, ⟨nd, rfl⟩⟩
  refine ⟨_, rfl, ?_⟩
  refine hK.out _ _ ⟨(am BK151.out 0).trans rfl, (am BK151.out 1).trans rfl, (am BK151.out 2).trans rfl, (am BK152.out 0).trans rfl, (am BK152.out 1).trans rfl⟩ (fun hHeld => ?_)
  clear hK K
  refine norm_ (a' := ?_) ?_ ?_
  rotate_left
  · show Act.put _ (some 29) _ = _
    simp only [Act.put, List.setIfInBounds_toArray, List.set_cons_zero, List.set_cons_succ, i64_w, i32_w]
    rfl
  refine pure_ (i := 7) (N := some 30) (v := ?_) (a' := ?_) #[true, true, true, true, true, true, true, true, false, false, false, false, false] rfl rfl (any_of HT_.out (by kernel_rfl)) (fun _ _ _ h => h) (Or.inl ⟨by rfl, ?_⟩) ?_ ?_
  rotate_left
  · intro w'
    go_simp
    with_reducible rfl
  rotate_left
  · simp only [Act.put, List.setIfInBounds_toArray, List.set_cons_zero, List.set_cons_succ, i64_w, i32_w]
    rfl
  refine one_ (i := 8) (N := some 31) #[true, true, true, true, true, true, true, true, true, false, false, false, false] rfl rfl (one_of HT_.out (by kernel_rfl)) (by decide) (fun K hK => ?_)
  refine goes_ Try.func99 (by kernel_rfl) rfl #[.int .i64 (wrap64 (t154 * t157)), .int .i64 1000000] (by rfl) rfl rfl (by (try simp only [List.map_toArray, List.map_cons, List.map_nil]); first | done | rfl | (simp only [List.length_drop, List.length_take]; rfl)) ?_
  with_reducible refine (impl_nearest.calls (wrap64 (t154 * t157)) 1000000 t158 _ A8.out).mono ?_
  rintro e w' ⟨rfl, ⟨nd, rfl⟩⟩
  refine ⟨_, rfl, ?_⟩
  refine hK.out _ _ ⟨(am BK151.out 0).trans rfl, (am BK151.out 1).trans rfl, (am BK151.out 2).trans rfl, (am BK152.out 0).trans rfl, (am BK152.out 1).trans rfl⟩ (fun hHeld => ?_)
  clear hK K
  refine norm_ (a' := ?_) ?_ ?_
  rotate_left
  · show Act.put _ (some 31) _ = _
    simp only [Act.put, List.setIfInBounds_toArray, List.set_cons_zero, List.set_cons_succ, i64_w, i32_w]
    rfl
  refine pure_ (i := 9) (N := some 32) (v := ?_) (a' := ?_) #[true, true, true, true, true, true, true, true, true, true, false, false, false] rfl rfl (any_of HT_.out (by kernel_rfl)) (fun _ _ _ h => h) (Or.inl ⟨by rfl, ?_⟩) ?_ ?_
  rotate_left
  · intro w'
    go_simp
    with_reducible rfl
  rotate_left
  · simp only [Act.put, List.setIfInBounds_toArray, List.set_cons_zero, List.set_cons_succ, i64_w, i32_w]
    rfl
  refine pure_ (i := 10) (N := some 33) (v := ?_) (a' := ?_) #[true, true, true, true, true, true, true, true, true, true, true, false, false] rfl rfl (any_of HT_.out (by kernel_rfl)) (fun _ _ _ h => h) (Or.inl ⟨by rfl, ?_⟩) ?_ ?_
  rotate_left
  · intro w'
    go_simp
    with_reducible rfl
  rotate_left
  · simp only [Act.put, List.setIfInBounds_toArray, List.set_cons_zero, List.set_cons_succ, i64_w, i32_w]
    rfl
  refine pure_ (i := 11) (N := some 34) (v := ?_) (a' := ?_) #[true, true, true, true, true, true, true, true, true, true, true, true, false] rfl rfl (any_of HT_.out (by kernel_rfl)) (fun _ _ _ h => h) (Or.inl ⟨by rfl, ?_⟩) ?_ ?_
  rotate_left
  · intro w'
    go_simp
    with_reducible rfl
  rotate_left
  · simp only [Act.put, List.setIfInBounds_toArray, List.set_cons_zero, List.set_cons_succ, i64_w, i32_w]
    rfl
  repeat ((generalize hq_ : World.drewN w19 _ = w19; have hh_ := congrArg World.heap hq_; simp only [World.heap_drewN] at hh_; rw [hh_] at BK151 BK152 BK153; have n3_ : Aside0 (Below w.heap.size w w19) := ⟨by rw [← hq_]; exact ab HB.out _⟩; clear HB hh_ hq_; have HB := n3_; clear n3_))
  refine last_ (i := 12) (N := none) #[true, true, true, true, true, true, true, true, true, true, true, true, true] rfl rfl (one_of HT_.out (by kernel_rfl)) (by decide) (fun K hK => ?_)
  have hs20 : w19.cell? ⟨gb151, 1, none⟩ = some (.int .i64 a0_1) := (am BK151.out 1).trans rfl
  have hfs20 := ao BK151.out 1
  have hns20_1 := NB152_151.out
  have hns20_2 := NB153_151.out
  have hms20_1 := NB151_152.out
  have hms20_2 := NB151_153.out
  refine skip_ (w1 := ?_) (by rfl) rfl ?_ ?_
  rotate_left
  · go_simp
    rfl
  refine hK.out _ _ ?_
  clear hK K
  refine done_ (done_of HT_.out (by kernel_rfl)) ?_
  try go_wp2
  have n0_ : Aside0 ((w19.setCell ⟨gb151, 1, none⟩ (.int .i64 (wrap64 (a0_1 + (wrap64 (a2 * t158)))))).heap[gb151]? = some (.cells #[.int .i64 (wrap64 (a0_0 + (wrap64 (a2 * t156)))), .int .i64 (wrap64 (a0_1 + (wrap64 (a2 * t158)))), .int .i64 a0_2] 81 (0, 0))) := ⟨by (with_reducible repeat (first | refine aj ?_ _ | refine al ?_ | refine ak ?_ _)); refine bh (cs := #[.int .i64 (wrap64 (a0_0 + (wrap64 (a2 * t156)))), .int .i64 a0_1, .int .i64 a0_2]) ?_ 1 _ rfl; (with_reducible repeat (first | refine aj ?_ _ | refine al ?_ | refine ak ?_ _)); exact BK151.out⟩
  have n1_ : Aside0 ((w19.setCell ⟨gb151, 1, none⟩ (.int .i64 (wrap64 (a0_1 + (wrap64 (a2 * t158)))))).heap[gb152]? = some (.cells #[.int .i64 a1_0, .int .i64 a1_1] 62 (0, 0))) := ⟨by (with_reducible repeat (first | refine aj ?_ _ | refine al ?_ | refine ak ?_ _)); refine blk_far ?_ NB152_151.out _; (with_reducible repeat (first | refine aj ?_ _ | refine al ?_ | refine ak ?_ _)); exact BK152.out⟩
  have n2_ : Aside0 ((w19.setCell ⟨gb151, 1, none⟩ (.int .i64 (wrap64 (a0_1 + (wrap64 (a2 * t158)))))).heap[gb153]? = some (.cells #[.int .i64 0, .int .i64 0, .int .i64 0] 81 (0, 0))) := ⟨by (with_reducible repeat (first | refine aj ?_ _ | refine al ?_ | refine ak ?_ _)); refine blk_far ?_ NB153_151.out _; (with_reducible repeat (first | refine aj ?_ _ | refine al ?_ | refine ak ?_ _)); exact BK153.out⟩
  have n3_ : Aside0 (Below w.heap.size w (w19.setCell ⟨gb151, 1, none⟩ (.int .i64 (wrap64 (a0_1 + (wrap64 (a2 * t158))))))) := ⟨by repeat (first | (with_reducible first | exact HB.out | apply ae | apply ab | apply ac | refine ai ?_ GE151.out | refine ai ?_ GE152.out | refine ai ?_ GE153.out) | exact HB.out)⟩
  (try clear BK151)
  (try clear BK152)
  (try clear BK153)
  (try clear HB)
  generalize (w19.setCell ⟨gb151, 1, none⟩ (.int .i64 (wrap64 (a0_1 + (wrap64 (a2 * t158)))))) = w21 at n0_ n1_ n2_ n3_ ⊢
  have BK151 := n0_
  have BK152 := n1_
  have BK153 := n2_
  have HB := n3_
  clear n0_ n1_ n2_ n3_
  (try (rw [drewN_self w21]; generalize hq_ : World.drewN w21 _ = w21; have n0_ : Aside0 (w21.heap[gb151]? = some (.cells #[.int .i64 (wrap64 (a0_0 + (wrap64 (a2 * t156)))), .int .i64 (wrap64 (a0_1 + (wrap64 (a2 * t158)))), .int .i64 a0_2] 81 (0, 0))) := ⟨by rw [← hq_]; exact (by (with_reducible repeat (first | refine aj ?_ _ | refine al ?_ | refine ak ?_ _)); exact BK151.out)⟩; have n1_ : Aside0 (w21.heap[gb152]? = some (.cells #[.int .i64 a1_0, .int .i64 a1_1] 62 (0, 0))) := ⟨by rw [← hq_]; exact (by (with_reducible repeat (first | refine aj ?_ _ | refine al ?_ | refine ak ?_ _)); exact BK152.out)⟩; have n2_ : Aside0 (w21.heap[gb153]? = some (.cells #[.int .i64 0, .int .i64 0, .int .i64 0] 81 (0, 0))) := ⟨by rw [← hq_]; exact (by (with_reducible repeat (first | refine aj ?_ _ | refine al ?_ | refine ak ?_ _)); exact BK153.out)⟩; have n3_ : Aside0 (Below w.heap.size w w21) := ⟨by rw [← hq_]; exact (by repeat (first | (with_reducible first | exact HB.out | apply ae | apply ab | apply ac | refine ai ?_ GE151.out | refine ai ?_ GE152.out | refine ai ?_ GE153.out) | exact HB.out))⟩; clear BK151 BK152 BK153 HB hq_; have BK151 := n0_; have BK152 := n1_; have BK153 := n2_; have HB := n3_; clear n0_ n1_ n2_ n3_))
  have n0_ := aa (al BK151.out)
  have n1_ := aa (al BK152.out)
  have n2_ := aa (al BK153.out)
  have n3_ := aa (ac HB.out)
  clear BK151
  clear BK152
  clear BK153
  clear HB
  have BK151 := n0_
  have BK152 := n1_
  have BK153 := n2_
  have HB := n3_
  clear n0_ n1_ n2_ n3_
  refine start_ (n := 10) (S := fun w' => w'.cell? ⟨gb151, 0, none⟩ = some (.int .i64 (wrap64 (a0_0 + (wrap64 (a2 * t156))))) ∧ w'.cell? ⟨gb151, 1, none⟩ = some (.int .i64 (wrap64 (a0_1 + (wrap64 (a2 * t158))))) ∧ w'.cell? ⟨gb151, 2, none⟩ = some (.int .i64 a0_2) ∧ w'.cell? ⟨gb152, 0, none⟩ = some (.int .i64 a1_0) ∧ w'.cell? ⟨gb152, 1, none⟩ = some (.int .i64 a1_1)) (ds := [9]) #[false, false, false, false, false, false, false, false, false, false] (by kernel_rfl) rfl rfl ⟨(am BK151.out 0).trans rfl, (am BK151.out 1).trans rfl, (am BK151.out 2).trans rfl, (am BK152.out 0).trans rfl, (am BK152.out 1).trans rfl⟩ (fun hHeld => ?_); refine with_tabW impl_moment_with.tab4 impl_moment_with.bits4 (fun HT_ HW_ => ?_)
  generalize w21.drew = w22 at BK151 BK152 BK153 HB hHeld ⊢
  refine pure_ (i := 0) (N := some 35) (v := ?_) (a' := ?_) #[true, false, false, false, false, false, false, false, false, false] rfl rfl (any_of HT_.out (by kernel_rfl)) (fun _ _ _ h => h) (Or.inl ⟨by rfl, ?_⟩) ?_ ?_
  rotate_left
  · intro w'
    go_simp
    with_reducible rfl
  rotate_left
  · simp only [Act.put, List.setIfInBounds_toArray, List.set_cons_zero, List.set_cons_succ, i64_w, i32_w]
    rfl
  refine pure_ (i := 2) (N := some 37) (v := ?_) (a' := ?_) #[true, false, true, false, false, false, false, false, false, false] rfl rfl (any_of HT_.out (by kernel_rfl)) (fun _ _ _ h => h) (Or.inl ⟨by rfl, ?_⟩) ?_ ?_
  rotate_left
  · intro w'
    go_simp
    with_reducible rfl
  rotate_left
  · simp only [Act.put, List.setIfInBounds_toArray, List.set_cons_zero, List.set_cons_succ, i64_w, i32_w]
    rfl
  refine pure_ (i := 3) (N := some 38) (v := ?_) (a' := ?_) #[true, false, true, true, false, false, false, false, false, false] rfl rfl (any_of HT_.out (by kernel_rfl)) (fun _ _ _ h => h) (Or.inl ⟨by rfl, ?_⟩) ?_ ?_
  rotate_left
  · intro w'
    go_simp
    with_reducible rfl
  rotate_left
  · simp only [Act.put, List.setIfInBounds_toArray, List.set_cons_zero, List.set_cons_succ, i64_w, i32_w]
    rfl
  refine take_ (i := 1) (N := some 36) (v := ?_) (a' := ?_) #[true, true, true, true, false, false, false, false, false, false] rfl rfl (take_ofW HT_.out HW_.out (by kernel_rfl)) (fun _ _ _ h => h) (Or.inl ⟨by rfl, ?_⟩) hHeld ?_ ?_
  rotate_left
  · rintro w' ⟨s0, s1, s2, s3, s4⟩
    go_simp
    with_reducible rfl
  rotate_left
  · simp only [Act.put, List.setIfInBounds_toArray, List.set_cons_zero, List.set_cons_succ, i64_w, i32_w]
    rfl
  refine take_ (i := 4) (N := some 39) (v := ?_) (a' := ?_) #[true, true, true, true, true, false, false, false, false, false] rfl rfl (take_ofW HT_.out HW_.out (by kernel_rfl)) (fun _ _ _ h => h) (Or.inl ⟨by rfl, ?_⟩) hHeld ?_ ?_
  rotate_left
  · rintro w' ⟨s0, s1, s2, s3, s4⟩
    go_simp
    with_reducible rfl
  rotate_left
  · simp only [Act.put, List.setIfInBounds_toArray, List.set_cons_zero, List.set_cons_succ, i64_w, i32_w]
    rfl
  refine one_ (i := 5) (N := some 40) #[true, true, true, true, true, true, false, false, false, false] rfl rfl (one_of HT_.out (by kernel_rfl)) (by decide) (fun K hK => ?_)
  refine goes_ Try.func109 (by kernel_rfl) rfl #[.int .i64 a1_0] (by rfl) rfl rfl (by (try simp only [List.map_toArray, List.map_cons, List.map_nil]); first | done | rfl | (simp only [List.length_drop, List.length_take]; rfl)) ?_
  with_reducible refine (impl_sine.calls k a1_0 t159 _ A9.out).mono ?_
  rintro e w' ⟨rfl, ⟨nd, rfl⟩⟩
  refine ⟨_, rfl, ?_⟩
  refine hK.out _ _ ⟨(am BK151.out 0).trans rfl, (am BK151.out 1).trans rfl, (am BK151.out 2).trans rfl, (am BK152.out 0).trans rfl, (am BK152.out 1).trans rfl⟩ (fun hHeld => ?_)
  clear hK K
  refine norm_ (a' := ?_) ?_ ?_
  rotate_left
  · show Act.put _ (some 40) _ = _
    simp only [Act.put, List.setIfInBounds_toArray, List.set_cons_zero, List.set_cons_succ, i64_w, i32_w]
    rfl
  refine pure_ (i := 6) (N := some 41) (v := ?_) (a' := ?_) #[true, true, true, true, true, true, true, false, false, false] rfl rfl (any_of HT_.out (by kernel_rfl)) (fun _ _ _ h => h) (Or.inl ⟨by rfl, ?_⟩) ?_ ?_
  rotate_left
  · intro w'
    go_simp
    with_reducible rfl
  rotate_left
  · simp only [Act.put, List.setIfInBounds_toArray, List.set_cons_zero, List.set_cons_succ, i64_w, i32_w]
    rfl
  refine pure_ (i := 7) (N := some 42) (v := ?_) (a' := ?_) #[true, true, true, true, true, true, true, true, false, false] rfl rfl (any_of HT_.out (by kernel_rfl)) (fun _ _ _ h => h) (Or.inl ⟨by rfl, ?_⟩) ?_ ?_
  rotate_left
  · intro w'
    go_simp
    with_reducible rfl
  rotate_left
  · simp only [Act.put, List.setIfInBounds_toArray, List.set_cons_zero, List.set_cons_succ, i64_w, i32_w]
    rfl
  refine pure_ (i := 8) (N := some 43) (v := ?_) (a' := ?_) #[true, true, true, true, true, true, true, true, true, false] rfl rfl (any_of HT_.out (by kernel_rfl)) (fun _ _ _ h => h) (Or.inl ⟨by rfl, ?_⟩) ?_ ?_
  rotate_left
  · intro w'
    go_simp
    with_reducible rfl
  rotate_left
  · simp only [Act.put, List.setIfInBounds_toArray, List.set_cons_zero, List.set_cons_succ, i64_w, i32_w]
    rfl
  repeat ((generalize hq_ : World.drewN w22 _ = w22; have hh_ := congrArg World.heap hq_; simp only [World.heap_drewN] at hh_; rw [hh_] at BK151 BK152 BK153; have n3_ : Aside0 (Below w.heap.size w w22) := ⟨by rw [← hq_]; exact ab HB.out _⟩; clear HB hh_ hq_; have HB := n3_; clear n3_))
  refine last_ (i := 9) (N := none) #[true, true, true, true, true, true, true, true, true, true] rfl rfl (one_of HT_.out (by kernel_rfl)) (by decide) (fun K hK => ?_)
  have hs23 : w22.cell? ⟨gb151, 2, none⟩ = some (.int .i64 a0_2) := (am BK151.out 2).trans rfl
  have hfs23 := ao BK151.out 2
  have hns23_1 := NB152_151.out
  have hns23_2 := NB153_151.out
  have hms23_1 := NB151_152.out
  have hms23_2 := NB151_153.out
  refine skip_ (w1 := ?_) (by rfl) rfl ?_ ?_
  rotate_left
  · go_simp
    rfl
  refine hK.out _ _ ?_
  clear hK K
  refine done_ (done_of HT_.out (by kernel_rfl)) ?_
  have hnb24 := NB151_153.out
  have hnc24 := NB153_151.out
  have hcz25_0 : w22.cell? ⟨gb151, 0, none⟩ = some (.int .i64 (wrap64 (a0_0 + (wrap64 (a2 * t156))))) := (am BK151.out 0).trans rfl
  have hcz25_1 : w22.cell? ⟨gb151, 1, none⟩ = some (.int .i64 (wrap64 (a0_1 + (wrap64 (a2 * t158))))) := (am BK151.out 1).trans rfl
  have hcz25_2 : w22.cell? ⟨gb151, 2, none⟩ = some (.int .i64 a0_2) := (am BK151.out 2).trans rfl
  have hfz25_0 := ao BK151.out 0
  have hfz25_1 := ao BK151.out 1
  have hfz25_2 := ao BK151.out 2
  have hcz26_0 : w22.cell? ⟨gb153, 0, none⟩ = some (.int .i64 0) := (am BK153.out 0).trans rfl
  have hcz26_1 : w22.cell? ⟨gb153, 1, none⟩ = some (.int .i64 0) := (am BK153.out 1).trans rfl
  have hcz26_2 : w22.cell? ⟨gb153, 2, none⟩ = some (.int .i64 0) := (am BK153.out 2).trans rfl
  have hfz26_0 := ao BK153.out 0
  have hfz26_1 := ao BK153.out 1
  have hfz26_2 := ao BK153.out 2
  try go_wp2
  refine bodyPost_ret (results_cell_row rfl _ _ gb153 81 #[.int .i64 (wrap64 (a0_0 + (wrap64 (a2 * t156)))), .int .i64 (wrap64 (a0_1 + (wrap64 (a2 * t158)))), .int .i64 (wrap64 (a0_2 + (wrap64 (a2 * t159))))] (0, 0) _ rfl (by (with_reducible repeat (first | refine aj ?_ _ | refine al ?_ | refine ak ?_ _)); refine bh (cs := #[.int .i64 (wrap64 (a0_0 + (wrap64 (a2 * t156)))), .int .i64 (wrap64 (a0_1 + (wrap64 (a2 * t158)))), .int .i64 0]) ?_ 2 _ rfl; (with_reducible repeat (first | refine aj ?_ _ | refine al ?_ | refine ak ?_ _)); refine bh (cs := #[.int .i64 (wrap64 (a0_0 + (wrap64 (a2 * t156)))), .int .i64 0, .int .i64 0]) ?_ 1 _ rfl; (with_reducible repeat (first | refine aj ?_ _ | refine al ?_ | refine ak ?_ _)); refine bh (cs := #[.int .i64 0, .int .i64 0, .int .i64 0]) ?_ 0 _ rfl; (with_reducible repeat (first | refine aj ?_ _ | refine al ?_ | refine ak ?_ _)); refine blk_far ?_ NB153_151.out _; (with_reducible repeat (first | refine aj ?_ _ | refine al ?_ | refine ak ?_ _)); exact BK153.out) Try.underlying81 rfl (by kernel_rfl)) rfl ?_
  exact ⟨by first | rfl | (simp [errW_none, errW_some] <;> rfl) | (simp [*, errW_none, errW_some] <;> rfl), by repeat (first | (with_reducible first | exact HB.out | apply ae | apply ab | apply ac | refine ai ?_ GE151.out | refine ai ?_ GE152.out | refine ai ?_ GE153.out) | exact HB.out)⟩

/-! ### impl_momentOf: function 85 -/
def impl_momentOf.l0 : Nat → List (S64) → Int → Int → Int → Int → Int → Option (Int × Int × Int)
  | 0, _, _, _, _, _, _ => none
  | k + 1, x7, x8, x9, x162000, x162001, x162002 => if x9 < x8 then (if 0 ≤ x9 then (if x9 < (x7.length : Int) then ((impl_moment_with.f k x162000 x162001 x162002 ((rd_T64 x7 x9).f1.f0) ((rd_T64 x7 x9).f1.f1) ((rd_T64 x7 x9).f0)).bind fun bt164 => (impl_momentOf.l0 k x7 x8 (wrap64 (x9 + 1)) bt164.1 bt164.2.1 bt164.2.2)) else (none)) else (none)) else (some (x162000, x162001, x162002))
def impl_momentOf.f (k : Nat) (l0 : List (S64)) : Option (Int × Int × Int) := impl_momentOf.l0 k l0 (l0.length : Int) 0 0 0 0
theorem impl_momentOf.mono_l : ∀ k, (∀ y0 y1 y2 y3 y4 y5, LeO (impl_momentOf.l0 k y0 y1 y2 y3 y4 y5) (impl_momentOf.l0 (k + 1) y0 y1 y2 y3 y4 y5))
  | 0 => fun _ _ _ _ _ _ r h => by simp [impl_momentOf.l0] at h
  | k + 1 => by
    have ih0 := impl_momentOf.mono_l k
    · intro y0 y1 y2 y3 y4 y5
      unfold impl_momentOf.l0
      repeat' first
      | (with_reducible exact ih0 _ _ _ _ _ _)
      | (with_reducible exact impl_moment_with.mono _ _ _ _ _ _ _)
      | (with_reducible exact LeO.refl _)
      | (with_reducible exact LeO.none _)
      | (with_reducible refine LeO.ite ?_ ?_)
      | (with_reducible refine LeO.bind ?_ (fun _ => ?_))
      | exact ih0 _ _ _ _ _ _
      | exact impl_moment_with.mono _ _ _ _ _ _ _
      | exact LeO.none _
      | refine LeO.ite ?_ ?_
      | refine LeO.bind ?_ (fun _ => ?_)
theorem impl_momentOf.mono : ∀ a0 k, LeO (impl_momentOf.f k a0) (impl_momentOf.f (k + 1) a0) := by
  intro a0 k
  have ih0 := impl_momentOf.mono_l k
  unfold impl_momentOf.f
  repeat' first
      | (with_reducible exact ih0 _ _ _ _ _ _)
      | (with_reducible exact impl_moment_with.mono _ _ _ _ _ _ _)
      | (with_reducible exact LeO.refl _)
      | (with_reducible exact LeO.none _)
      | (with_reducible refine LeO.ite ?_ ?_)
      | (with_reducible refine LeO.bind ?_ (fun _ => ?_))
      | exact ih0 _ _ _ _ _ _
      | exact impl_moment_with.mono _ _ _ _ _ _ _
      | exact LeO.none _
      | refine LeO.ite ?_ ?_
      | refine LeO.bind ?_ (fun _ => ?_)
set_option maxHeartbeats 8000000 in
set_option maxRecDepth 100000 in
theorem impl_momentOf.calls (k : Nat) (A0 : Option Addr) (c0 : Nat) (l0 : List (S64)) (r1 : Int) (r2 : Int) (r3 : Int) (w : World) (hr0 : Kd.C k64 w A0 l0.length l0) (hc0 : l0.length ≤ c0) (h : impl_momentOf.f k l0 = some (r1, r2, r3)) :
    Calls Try.prog 85 #[.slice A0 l0.length c0] w fun e w' => e = .returned (.agg #[.int .i64 r1, .int .i64 r2, .int .i64 r3]) ∧ Below w.heap.size w w' := by
  have hu81 := Try.underlying81
  have hu64 := Try.underlying64
  have hu62 := Try.underlying62
  have HR0 := aa hr0
  have HC0 := aa hc0
  clear hr0 hc0
  have HB := aa (Below.refl w.heap.size w)
  have H : (impl_momentOf.l0 k l0 (l0.length : Int) 0 0 0 0) = some (r1, r2, r3) := h
  clear h
  have H' := aa H
  clear H
  go_enter Try.func85, Try.ntmps85
  go_wp2_with (first | ((with_reducible refine bi (N := 2) rfl ?_); refine box_event ?hg (N := 2) ?hd (cs := #[.int .i64 0, .int .i64 0, .int .i64 0]) (t := 81) ?hr ?_; (case hd => rfl); (case hg => rfl); (case hr => first | (go_simp; done) | (go_simp; rfl)); intro gb160 hg w2 hbox hb; have n0_ := aa (ap (by repeat (first | (with_reducible first | exact HB.out | apply ae | apply ab | apply ac) | exact HB.out)) hb); have n1_ := aa (hbox); have n2_ := aa ((by rw [hg]; exact (aw (by repeat (first | (with_reducible first | exact HB.out | apply ae | apply ab | apply ac) | exact HB.out))) : w.heap.size ≤ gb160)); have n3_ := aa ((by rw [hg]; exact (aw (by repeat (first | (with_reducible first | exact HB.out | apply ae | apply ab | apply ac) | exact HB.out))) : w.heap.size ≤ gb160)); clear HB; have HB := n0_; have BK160 := n1_; have GW160 := n2_; have GE160 := n3_; clear n0_ n1_ n2_ n3_; clear hb hbox hg) | ((with_reducible refine bi (N := 3) rfl ?_); refine box_event ?hg (N := 3) ?hd (cs := #[.int .i64 0, .int .i64 0, .int .i64 0]) (t := 81) ?hr ?_; (case hd => rfl); (case hg => rfl); (case hr => first | (go_simp; done) | (go_simp; rfl)); intro gb161 hg w3 hbox hb; have n0_ := aa (bf (g := gb160) (o := .cells #[.int .i64 0, .int .i64 0, .int .i64 0] 81 (0, 0)) (by (with_reducible repeat (first | refine aj ?_ _ | refine al ?_ | refine ak ?_ _)); exact BK160.out) hb); have n1_ := aa (ap (by repeat (first | (with_reducible first | exact HB.out | apply ae | apply ab | apply ac | refine ai ?_ GE160.out) | exact HB.out)) hb); have n2_ := aa (hbox); have n3_ := aa ((by rw [hg]; exact (aw (by repeat (first | (with_reducible first | exact HB.out | apply ae | apply ab | apply ac | refine ai ?_ GE160.out) | exact HB.out))) : w.heap.size ≤ gb161)); have n4_ := aa ((by rw [hg]; exact (aw (by repeat (first | (with_reducible first | exact HB.out | apply ae | apply ab | apply ac | refine ai ?_ GE160.out) | exact HB.out))) : w.heap.size ≤ gb161)); have n5_ := aa ((by rw [hg]; exact Nat.ne_of_lt (blk_lt (g := gb160) (o := .cells #[.int .i64 0, .int .i64 0, .int .i64 0] 81 (0, 0)) (by (with_reducible repeat (first | refine aj ?_ _ | refine al ?_ | refine ak ?_ _)); exact BK160.out)) : gb160 ≠ gb161)); have n6_ := aa ((by rw [hg]; exact Nat.ne_of_gt (blk_lt (g := gb160) (o := .cells #[.int .i64 0, .int .i64 0, .int .i64 0] 81 (0, 0)) (by (with_reducible repeat (first | refine aj ?_ _ | refine al ?_ | refine ak ?_ _)); exact BK160.out)) : gb161 ≠ gb160)); clear BK160; clear HB; have BK160 := n0_; have HB := n1_; have BK161 := n2_; have GW161 := n3_; have GE161 := n4_; have NB160_161 := n5_; have NB161_160 := n6_; clear n0_ n1_ n2_ n3_ n4_ n5_ n6_; clear hb hbox hg; have hnb4 := NB161_160.out; have hnc4 := NB160_161.out; have hcz5_0 : w3.cell? ⟨gb161, 0, none⟩ = some (.int .i64 0) := (am BK161.out 0).trans rfl; have hcz5_1 : w3.cell? ⟨gb161, 1, none⟩ = some (.int .i64 0) := (am BK161.out 1).trans rfl; have hcz5_2 : w3.cell? ⟨gb161, 2, none⟩ = some (.int .i64 0) := (am BK161.out 2).trans rfl; have hfz5_0 := ao BK161.out 0; have hfz5_1 := ao BK161.out 1; have hfz5_2 := ao BK161.out 2))
  go_loopg [9] k (fun kq v9 w' => ∃ (x9_1 : Int) (x162000_1 : Int) (x162001_1 : Int) (x162002_1 : Int), v9 = .int .i64 x9_1 ∧ Aside0 (impl_momentOf.l0 kq l0 (l0.length : Int) x9_1 x162000_1 x162001_1 x162002_1 = some (r1, r2, r3)) ∧ Aside0 (kq ≤ k) ∧ Aside0 (w'.heap[gb160]? = some (.cells #[.int .i64 0, .int .i64 0, .int .i64 0] 81 (0, 0))) ∧ Aside0 (w'.heap[gb161]? = some (.cells #[.int .i64 x162000_1, .int .i64 x162001_1, .int .i64 x162002_1] 81 (0, 0))) ∧ Aside0 (Below w.heap.size w w'))
  case atStart => exact ⟨(0), (0), (0), (0), (by first | rfl | (simp; done) | (simp [*]; done)), H', ⟨Nat.le_refl _⟩, ⟨by (with_reducible repeat (first | refine aj ?_ _ | refine al ?_ | refine ak ?_ _)); refine blk_far ?_ NB160_161.out _; (with_reducible repeat (first | refine aj ?_ _ | refine al ?_ | refine ak ?_ _)); refine blk_far ?_ NB160_161.out _; (with_reducible repeat (first | refine aj ?_ _ | refine al ?_ | refine ak ?_ _)); refine blk_far ?_ NB160_161.out _; (with_reducible repeat (first | refine aj ?_ _ | refine al ?_ | refine ak ?_ _)); exact BK160.out⟩, ⟨by (with_reducible repeat (first | refine aj ?_ _ | refine al ?_ | refine ak ?_ _)); refine bh (cs := #[.int .i64 0, .int .i64 0, .int .i64 0]) ?_ 2 _ rfl; (with_reducible repeat (first | refine aj ?_ _ | refine al ?_ | refine ak ?_ _)); refine bh (cs := #[.int .i64 0, .int .i64 0, .int .i64 0]) ?_ 1 _ rfl; (with_reducible repeat (first | refine aj ?_ _ | refine al ?_ | refine ak ?_ _)); refine bh (cs := #[.int .i64 0, .int .i64 0, .int .i64 0]) ?_ 0 _ rfl; (with_reducible repeat (first | refine aj ?_ _ | refine al ?_ | refine ak ?_ _)); exact BK161.out⟩, ⟨by repeat (first | (with_reducible first | exact HB.out | apply ae | apply ab | apply ac | refine ai ?_ GE160.out | refine ai ?_ GE161.out) | exact HB.out)⟩⟩
  case round =>
    clear H'
    try clear p2
    try clear c4
    try clear hcz5_0
    try clear hcz5_1
    try clear hcz5_2
    try clear hfz5_0
    try clear hfz5_1
    try clear hfz5_2
    obtain ⟨x9_1, x162000_1, x162001_1, x162002_1, rfl, HA, HK1, BK160, BK161, HB⟩ := hrel
    cases gk with
    | zero => exact absurd HA.out (by simp [impl_momentOf.l0])
    | succ k1 =>
      have H := HA.out
      clear HA
      simp only [impl_momentOf.l0] at H
      by_cases c6 : x9_1 < (l0.length : Int)
      · rw [if_pos c6] at H
        have c6b0 : decide (x9_1 < (l0.length : Int)) = true := decide_eq_true c6
        clear c6
        by_cases c7 : 0 ≤ x9_1
        · rw [if_pos c7] at H
          have c7b0 : decide (0 ≤ x9_1) = true := decide_eq_true c7
          clear c7
          by_cases c8 : x9_1 < (l0.length : Int)
          · rw [if_pos c8] at H
            have c8b0 : decide (x9_1 < (l0.length : Int)) = true := decide_eq_true c8
            clear c8
            replace H := bl.mp H
            obtain ⟨⟨t164, t165, t166⟩, A90, H⟩ := H
            (try dsimp only at H)
            have A9 := aa A90
            clear A90
            have H' := aa H
            clear H
            have p162 : 0 ≤ (x9_1 : Int) := of_decide_eq_true (by first | (with_reducible assumption) | assumption)
            have q162 : x9_1 < (l0.length : Int) := of_decide_eq_true (by first | (with_reducible assumption) | assumption)
            obtain ⟨ad162, e162, hx162_0, hx162_1, hx162_2⟩ := at_T64 HR0.out x9_1 p162 q162
            cases e162
            replace hx162_0 := (HB.out.cell (World.block_lt_of_cell? w _ hx162_0)).trans hx162_0
            replace hx162_1 := (HB.out.cell (World.block_lt_of_cell? w _ hx162_1)).trans hx162_1
            replace hx162_2 := (HB.out.cell (World.block_lt_of_cell? w _ hx162_2)).trans hx162_2
            replace p162 := eq_true p162
            replace q162 := eq_true q162
            go_wp2_with (first | ((with_reducible refine bi (N := 5) rfl ?_); refine box_event ?hg (N := 5) ?hd (cs := #[.int .i64 0, .int .i64 0, .int .i64 0]) (t := 64) ?hr ?_; (case hd => rfl); (case hg => rfl); (case hr => first | (go_simp; done) | (go_simp; rfl)); intro gb163 hg w10 hbox hb; have n0_ := aa (bf (g := gb160) (o := .cells #[.int .i64 0, .int .i64 0, .int .i64 0] 81 (0, 0)) (by (with_reducible repeat (first | refine aj ?_ _ | refine al ?_ | refine ak ?_ _)); exact BK160.out) hb); have n1_ := aa (bf (g := gb161) (o := .cells #[.int .i64 x162000_1, .int .i64 x162001_1, .int .i64 x162002_1] 81 (0, 0)) (by (with_reducible repeat (first | refine aj ?_ _ | refine al ?_ | refine ak ?_ _)); exact BK161.out) hb); have n2_ := aa (ap (by repeat (first | (with_reducible first | exact HB.out | apply ae | apply ab | apply ac | refine ai ?_ GE160.out | refine ai ?_ GE161.out) | exact HB.out)) hb); have n3_ := aa (hbox); have n4_ := aa ((by rw [hg]; exact (aw (by repeat (first | (with_reducible first | exact HB.out | apply ae | apply ab | apply ac | refine ai ?_ GE160.out | refine ai ?_ GE161.out) | exact HB.out))) : w.heap.size ≤ gb163)); have n5_ := aa ((by rw [hg]; exact (aw (by repeat (first | (with_reducible first | exact HB.out | apply ae | apply ab | apply ac | refine ai ?_ GE160.out | refine ai ?_ GE161.out) | exact HB.out))) : w.heap.size ≤ gb163)); have n6_ := aa ((by rw [hg]; exact Nat.ne_of_lt (blk_lt (g := gb160) (o := .cells #[.int .i64 0, .int .i64 0, .int .i64 0] 81 (0, 0)) (by (with_reducible repeat (first | refine aj ?_ _ | refine al ?_ | refine ak ?_ _)); exact BK160.out)) : gb160 ≠ gb163)); have n7_ := aa ((by rw [hg]; exact Nat.ne_of_gt (blk_lt (g := gb160) (o := .cells #[.int .i64 0, .int .i64 0, .int .i64 0] 81 (0, 0)) (by (with_reducible repeat (first | refine aj ?_ _ | refine al ?_ | refine ak ?_ _)); exact BK160.out)) : gb163 ≠ gb160)); have n8_ := aa ((by rw [hg]; exact Nat.ne_of_lt (blk_lt (g := gb161) (o := .cells #[.int .i64 x162000_1, .int .i64 x162001_1, .int .i64 x162002_1] 81 (0, 0)) (by (with_reducible repeat (first | refine aj ?_ _ | refine al ?_ | refine ak ?_ _)); exact BK161.out)) : gb161 ≠ gb163)); have n9_ := aa ((by rw [hg]; exact Nat.ne_of_gt (blk_lt (g := gb161) (o := .cells #[.int .i64 x162000_1, .int .i64 x162001_1, .int .i64 x162002_1] 81 (0, 0)) (by (with_reducible repeat (first | refine aj ?_ _ | refine al ?_ | refine ak ?_ _)); exact BK161.out)) : gb163 ≠ gb161)); clear BK160; clear BK161; clear HB; have BK160 := n0_; have BK161 := n1_; have HB := n2_; have BK163 := n3_; have GW163 := n4_; have GE163 := n5_; have NB160_163 := n6_; have NB163_160 := n7_; have NB161_163 := n8_; have NB163_161 := n9_; clear n0_ n1_ n2_ n3_ n4_ n5_ n6_ n7_ n8_ n9_; clear hb hbox hg; have hnb11 := NB163_160.out; have hnc11 := NB160_163.out; have hnb12 := NB163_161.out; have hnc12 := NB161_163.out; have hcz13_0 : w10.cell? ⟨gb163, 0, none⟩ = some (.int .i64 0) := (am BK163.out 0).trans rfl; have hcz13_1 : w10.cell? ⟨gb163, 1, none⟩ = some (.int .i64 0) := (am BK163.out 1).trans rfl; have hcz13_2 : w10.cell? ⟨gb163, 2, none⟩ = some (.int .i64 0) := (am BK163.out 2).trans rfl; have hfz13_0 := ao BK163.out 0; have hfz13_1 := ao BK163.out 1; have hfz13_2 := ao BK163.out 2; have hnb14 := NB161_160.out; have hnc14 := NB160_161.out; have hcz15_0 : w10.cell? ⟨gb161, 0, none⟩ = some (.int .i64 x162000_1) := (am BK161.out 0).trans rfl; have hcz15_1 : w10.cell? ⟨gb161, 1, none⟩ = some (.int .i64 x162001_1) := (am BK161.out 1).trans rfl; have hcz15_2 : w10.cell? ⟨gb161, 2, none⟩ = some (.int .i64 x162002_1) := (am BK161.out 2).trans rfl; have hfz15_0 := ao BK161.out 0; have hfz15_1 := ao BK161.out 1; have hfz15_2 := ao BK161.out 2) | ((with_reducible refine gate_callee (f := 92) rfl ?_); refine goesL_ (some 18) rfl rfl Try.func92 (by kernel_rfl) rfl #[.agg #[.int .i64 x162000_1, .int .i64 x162001_1, .int .i64 x162002_1], .agg #[.int .i64 ((rd_T64 l0 x9_1).f1.f0), .int .i64 ((rd_T64 l0 x9_1).f1.f1)], .int .i64 ((rd_T64 l0 x9_1).f0)] rfl (by (try simp only [List.map_toArray, List.map_cons, List.map_nil]); first | done | rfl | (simp only [List.length_drop, List.length_take]; rfl)) ?_; (with_reducible refine (impl_moment_with.calls k1 x162000_1 x162001_1 x162002_1 ((rd_T64 l0 x9_1).f1.f0) ((rd_T64 l0 x9_1).f1.f1) ((rd_T64 l0 x9_1).f0) t164 t165 t166 _ A9.out).mono ?_); rintro e w16 ⟨rfl, hb⟩; refine ⟨_, rfl, ?_⟩; have n0_ := aa (bf (g := gb160) (o := .cells #[.int .i64 0, .int .i64 0, .int .i64 0] 81 (0, 0)) (by (with_reducible repeat (first | refine aj ?_ _ | refine al ?_ | refine ak ?_ _)); refine blk_far ?_ NB160_163.out _; (with_reducible repeat (first | refine aj ?_ _ | refine al ?_ | refine ak ?_ _)); refine blk_far ?_ NB160_163.out _; (with_reducible repeat (first | refine aj ?_ _ | refine al ?_ | refine ak ?_ _)); refine blk_far ?_ NB160_163.out _; (with_reducible repeat (first | refine aj ?_ _ | refine al ?_ | refine ak ?_ _)); exact BK160.out) hb); have n1_ := aa (bf (g := gb161) (o := .cells #[.int .i64 x162000_1, .int .i64 x162001_1, .int .i64 x162002_1] 81 (0, 0)) (by (with_reducible repeat (first | refine aj ?_ _ | refine al ?_ | refine ak ?_ _)); refine blk_far ?_ NB161_163.out _; (with_reducible repeat (first | refine aj ?_ _ | refine al ?_ | refine ak ?_ _)); refine blk_far ?_ NB161_163.out _; (with_reducible repeat (first | refine aj ?_ _ | refine al ?_ | refine ak ?_ _)); refine blk_far ?_ NB161_163.out _; (with_reducible repeat (first | refine aj ?_ _ | refine al ?_ | refine ak ?_ _)); exact BK161.out) hb); have n2_ := aa (bf (g := gb163) (o := .cells #[.int .i64 ((rd_T64 l0 x9_1).f0), .int .i64 ((rd_T64 l0 x9_1).f1.f0), .int .i64 ((rd_T64 l0 x9_1).f1.f1)] 64 (0, 0)) (by (with_reducible repeat (first | refine aj ?_ _ | refine al ?_ | refine ak ?_ _)); refine bh (cs := #[.int .i64 ((rd_T64 l0 x9_1).f0), .int .i64 ((rd_T64 l0 x9_1).f1.f0), .int .i64 0]) ?_ 2 _ rfl; (with_reducible repeat (first | refine aj ?_ _ | refine al ?_ | refine ak ?_ _)); refine bh (cs := #[.int .i64 ((rd_T64 l0 x9_1).f0), .int .i64 0, .int .i64 0]) ?_ 1 _ rfl; (with_reducible repeat (first | refine aj ?_ _ | refine al ?_ | refine ak ?_ _)); refine bh (cs := #[.int .i64 0, .int .i64 0, .int .i64 0]) ?_ 0 _ rfl; (with_reducible repeat (first | refine aj ?_ _ | refine al ?_ | refine ak ?_ _)); exact BK163.out) hb); have n3_ := aa (ap (by repeat (first | (with_reducible first | exact HB.out | apply ae | apply ab | apply ac | refine ai ?_ GE160.out | refine ai ?_ GE161.out | refine ai ?_ GE163.out) | exact HB.out)) hb); clear BK160; clear BK161; clear BK163; clear HB; have BK160 := n0_; have BK161 := n1_; have BK163 := n2_; have HB := n3_; clear n0_ n1_ n2_ n3_; (try clear hb); (try clear hb2); (try clear hk); (try clear hi); have hcz17_0 : w16.cell? ⟨gb161, 0, none⟩ = some (.int .i64 x162000_1) := (am BK161.out 0).trans rfl; have hcz17_1 : w16.cell? ⟨gb161, 1, none⟩ = some (.int .i64 x162001_1) := (am BK161.out 1).trans rfl; have hcz17_2 : w16.cell? ⟨gb161, 2, none⟩ = some (.int .i64 x162002_1) := (am BK161.out 2).trans rfl; have hfz17_0 := ao BK161.out 0; have hfz17_1 := ao BK161.out 1; have hfz17_2 := ao BK161.out 2))
            go_roundg k1
            case measure => have := HK1.out; omega
            case rel => exact ⟨(wrap64 (x9_1 + 1)), (t164), (t165), (t166), (by first | rfl | (simp; done) | (simp [*]; done)), H', ⟨by have := HK1.out; omega⟩, ⟨by (with_reducible repeat (first | refine aj ?_ _ | refine al ?_ | refine ak ?_ _)); refine blk_far ?_ NB160_161.out _; (with_reducible repeat (first | refine aj ?_ _ | refine al ?_ | refine ak ?_ _)); refine blk_far ?_ NB160_161.out _; (with_reducible repeat (first | refine aj ?_ _ | refine al ?_ | refine ak ?_ _)); refine blk_far ?_ NB160_161.out _; (with_reducible repeat (first | refine aj ?_ _ | refine al ?_ | refine ak ?_ _)); exact BK160.out⟩, ⟨by (with_reducible repeat (first | refine aj ?_ _ | refine al ?_ | refine ak ?_ _)); refine bh (cs := #[.int .i64 t164, .int .i64 t165, .int .i64 x162002_1]) ?_ 2 _ rfl; (with_reducible repeat (first | refine aj ?_ _ | refine al ?_ | refine ak ?_ _)); refine bh (cs := #[.int .i64 t164, .int .i64 x162001_1, .int .i64 x162002_1]) ?_ 1 _ rfl; (with_reducible repeat (first | refine aj ?_ _ | refine al ?_ | refine ak ?_ _)); refine bh (cs := #[.int .i64 x162000_1, .int .i64 x162001_1, .int .i64 x162002_1]) ?_ 0 _ rfl; (with_reducible repeat (first | refine aj ?_ _ | refine al ?_ | refine ak ?_ _)); exact BK161.out⟩, ⟨by repeat (first | (with_reducible first | exact HB.out | apply ae | apply ab | apply ac | refine ai ?_ GE160.out | refine ai ?_ GE161.out | refine ai ?_ GE163.out) | exact HB.out)⟩⟩
          · rw [if_neg c8] at H
            exact absurd H (by simp)
        · rw [if_neg c7] at H
          exact absurd H (by simp)
      · rw [if_neg c6] at H
        have c6b0 : decide (x9_1 < (l0.length : Int)) = false := decide_eq_false c6
        clear c6
        simp only [Option.some.injEq, Prod.mk.injEq] at H
        obtain ⟨rfl, rfl, rfl⟩ := H
        have hnb18 := NB161_160.out
        have hnc18 := NB160_161.out
        have hcz19_0 : wr.cell? ⟨gb161, 0, none⟩ = some (.int .i64 x162000_1) := (am BK161.out 0).trans rfl
        have hcz19_1 : wr.cell? ⟨gb161, 1, none⟩ = some (.int .i64 x162001_1) := (am BK161.out 1).trans rfl
        have hcz19_2 : wr.cell? ⟨gb161, 2, none⟩ = some (.int .i64 x162002_1) := (am BK161.out 2).trans rfl
        have hfz19_0 := ao BK161.out 0
        have hfz19_1 := ao BK161.out 1
        have hfz19_2 := ao BK161.out 2
        have hcz20_0 : wr.cell? ⟨gb160, 0, none⟩ = some (.int .i64 0) := (am BK160.out 0).trans rfl
        have hcz20_1 : wr.cell? ⟨gb160, 1, none⟩ = some (.int .i64 0) := (am BK160.out 1).trans rfl
        have hcz20_2 : wr.cell? ⟨gb160, 2, none⟩ = some (.int .i64 0) := (am BK160.out 2).trans rfl
        have hfz20_0 := ao BK160.out 0
        have hfz20_1 := ao BK160.out 1
        have hfz20_2 := ao BK160.out 2
        go_wp2
        refine bodyPost_ret (results_cell_row rfl _ _ gb160 81 #[.int .i64 x162000_1, .int .i64 x162001_1, .int .i64 x162002_1] (0, 0) _ rfl (by (with_reducible repeat (first | refine aj ?_ _ | refine al ?_ | refine ak ?_ _)); refine bh (cs := #[.int .i64 x162000_1, .int .i64 x162001_1, .int .i64 0]) ?_ 2 _ rfl; (with_reducible repeat (first | refine aj ?_ _ | refine al ?_ | refine ak ?_ _)); refine bh (cs := #[.int .i64 x162000_1, .int .i64 0, .int .i64 0]) ?_ 1 _ rfl; (with_reducible repeat (first | refine aj ?_ _ | refine al ?_ | refine ak ?_ _)); refine bh (cs := #[.int .i64 0, .int .i64 0, .int .i64 0]) ?_ 0 _ rfl; (with_reducible repeat (first | refine aj ?_ _ | refine al ?_ | refine ak ?_ _)); exact BK160.out) Try.underlying81 rfl (by kernel_rfl)) rfl ?_
        exact ⟨by first | rfl | (simp [errW_none, errW_some] <;> rfl) | (simp [*, errW_none, errW_some] <;> rfl), by repeat (first | (with_reducible first | exact HB.out | apply ae | apply ab | apply ac | refine ai ?_ GE160.out | refine ai ?_ GE161.out) | exact HB.out)⟩

/-! ### impl_MomentOf: function 43 -/
theorem three_R (w : World) (base : Nat) (hb : base ≤ w.heap.size) (m0 m1 m2 : Int) : (Kd.int .i64).R 81 (w.alloc (.cells #[.int .i64 m0, .int .i64 m1, .int .i64 m2] 81)) base (fun _ => True) (.slice (some ⟨w.heap.size, 0, none⟩) 3 3) [m0, m1, m2] := by
  refine ⟨fun _ _ => trivial, ?_⟩
  have h := OwnRow.lit (R := (Kd.int .i64).M (w.alloc (.cells #[.int .i64 m0, .int .i64 m1, .int .i64 m2] 81)) base (fun k => True ∧ some k ≠ (Value.slice (some ⟨w.heap.size, 0, none⟩) 3 3).ownBlock)) (e := 81) (size := 1) (ps := [m0, m1, m2]) w base (inner := [.int .i64 m0, .int .i64 m1, .int .i64 m2]) ?_ hb (by simp)
  · exact h
  · refine ⟨rfl, fun j p hp => ?_⟩
    match j, hp with
    | 0, hp =>
      obtain rfl : m0 = p := by simpa using hp
      rfl
    | 1, hp =>
      obtain rfl : m1 = p := by simpa using hp
      rfl
    | 2, hp =>
      obtain rfl : m2 = p := by simpa using hp
      rfl
    | j + 3, hp => simp at hp
def impl_MomentOf.f (k : Nat) (l0 : List S64) : Option (List Int × Int) := (impl_ValidLoads.f l0).bind fun v => if v = true then ((impl_momentOf.f k l0).bind fun m => some ([m.1, m.2.1, m.2.2], 0)) else some ([], 1)
theorem impl_MomentOf.mono : ∀ a0 k, LeO (impl_MomentOf.f k a0) (impl_MomentOf.f (k + 1) a0) := by
  intro a0 k
  unfold impl_MomentOf.f
  repeat' first
      | (with_reducible exact impl_momentOf.mono _ _)
      | (with_reducible exact LeO.refl _)
      | (with_reducible refine LeO.ite ?_ ?_)
      | (with_reducible refine LeO.bind ?_ (fun _ => ?_))
set_option maxHeartbeats 8000000 in
set_option maxRecDepth 100000 in
theorem impl_MomentOf.calls (k : Nat) (A0 : Option Addr) (c0 : Nat) (l0 : List S64) (r1 : List Int) (r2 : Int) (w : World) (hr0 : Kd.C k64 w A0 l0.length l0) (hc0 : l0.length ≤ c0) (h : impl_MomentOf.f k l0 = some (r1, r2)) :
    Calls Try.prog 43 #[.slice A0 l0.length c0] w fun e w' => ∃ v0_ : Value, e = .returned (.tuple #[v0_, .int .i64 r2]) ∧ Kd.R (Kd.int .i64) 81 w' w.heap.size (fun _ => True) v0_ r1 ∧ Below w.heap.size w w' := by
  obtain ⟨v, h1, h⟩ := bl.mp h
  have HR0 := aa hr0
  have HC0 := aa hc0
  have H1 := aa h1
  clear hr0 hc0 h1
  cases v with
  | true =>
    rw [if_pos rfl] at h
    obtain ⟨⟨m0, m1, m2⟩, h4, h⟩ := bl.mp h
    have e := Option.some.inj h
    simp only [Prod.mk.injEq] at e
    obtain ⟨rfl, rfl⟩ := e
    have H4 := aa h4
    clear h h4
    go_enter Try.func43, Try.ntmps43
    go_wp2_with (first | (go_at_call 40; refine (impl_ValidLoads.calls _ _ l0 true _ HR0.out HC0.out H1.out).mono ?_; rintro e w1 ⟨rfl, hb1⟩; have HB1 := aa hb1; clear hb1) | (go_at_call 85; refine (impl_momentOf.calls k _ _ l0 m0 m1 m2 _ (Kd.C_below HR0.out HB1.out) HC0.out H4.out).mono ?_; rintro e w4 ⟨rfl, hb4⟩; have HB4 := aa (ap HB1.out hb4); clear hb4))
    go_ret2
    exact ⟨_, rfl, three_R w4 w.heap.size HB4.out.size m0 m1 m2, ae HB4.out _⟩
  | false =>
    rw [if_neg (by simp)] at h
    have e := Option.some.inj h
    simp only [Prod.mk.injEq] at e
    obtain ⟨rfl, rfl⟩ := e
    clear h
    go_enter Try.func43, Try.ntmps43
    go_wp2_with (first | (go_at_call 40; refine (impl_ValidLoads.calls _ _ l0 false _ HR0.out HC0.out H1.out).mono ?_; rintro e w1 ⟨rfl, hb1⟩; have HB1 := aa hb1; clear hb1))
    go_ret2
    exact ⟨_, rfl, Kd.R_nil _ _ _ _ _, HB1.out⟩


/-! ### spec_l00Size: function 62 -/
def spec_l00Size.f (a0 : Int) : Option (Int) := if a0 < 0 then (some (wrap64 (-a0))) else (some a0)
set_option maxHeartbeats 8000000 in
set_option maxRecDepth 100000 in
theorem spec_l00Size.calls (a0 : Int) (r : Int) (w : World) (h : spec_l00Size.f a0 = some r) :
    Calls Try.prog 62 #[.int .i64 a0] w fun e w' => e = .returned (.int .i64 r) ∧ Drawn0 w w' := by
  have H : (if a0 < 0 then (some (wrap64 (-a0))) else (some a0)) = some r := h
  clear h
  by_cases c2 : a0 < 0
  · rw [if_pos c2] at H
    have c2b0 : decide (a0 < 0) = true := decide_eq_true c2
    clear c2
    obtain rfl := Option.some.inj H
    go_enter Try.func62, Try.ntmps62
    go_wp2
    go_ret
    exact ⟨by first | rfl | (simp; done) | (simp [*]; done), by repeat (first | exact Drawn0.refl _ | apply Drawn0.step)⟩
  · rw [if_neg c2] at H
    have c2b0 : decide (a0 < 0) = false := decide_eq_false c2
    clear c2
    obtain rfl := Option.some.inj H
    go_enter Try.func62, Try.ntmps62
    go_wp2
    go_ret
    exact ⟨by first | rfl | (simp; done) | (simp [*]; done), by repeat (first | exact Drawn0.refl _ | apply Drawn0.step)⟩

/-! ### spec_IsEven: function 45 -/
def spec_IsEven.f (k : Nat) (l0 : List (S64)) (a1 : Int) : Option (Bool × Int) := (spec_l20Ok.f k l0).bind fun t167 => (if t167 = true then ((spec_l00In.f a1 0 1000000000).bind fun t168 => (if t168 = true then ((spec_l20Moment.f k l0).bind fun t169 => (if 0 < (t169.length : Int) then ((spec_l00Size.f (rd t169 0)).bind fun t173 => (if t173 ≤ a1 then (if 1 < (t169.length : Int) then ((spec_l00Size.f (rd t169 1)).bind fun t175 => (if t175 ≤ a1 then (if 2 < (t169.length : Int) then ((spec_l00Size.f (rd t169 2)).bind fun t177 => (some (decide (t177 ≤ a1), 0))) else (none)) else (some (false, 0)))) else (none)) else (some (false, 0)))) else (none))) else (some (false, 2)))) else (some (false, 1)))
theorem spec_IsEven.mono : ∀ a0 a1 k, LeO (spec_IsEven.f k a0 a1) (spec_IsEven.f (k + 1) a0 a1) := by
  intro a0 a1 k
  unfold spec_IsEven.f
  repeat' first
      | (with_reducible exact spec_l20Moment.mono _ _)
      | (with_reducible exact spec_l20Ok.mono _ _)
      | (with_reducible exact LeO.refl _)
      | (with_reducible exact LeO.none _)
      | (with_reducible refine LeO.ite ?_ ?_)
      | (with_reducible refine LeO.bind ?_ (fun _ => ?_))
      | exact spec_l20Moment.mono _ _
      | exact spec_l20Ok.mono _ _
      | exact LeO.none _
      | refine LeO.ite ?_ ?_
      | refine LeO.bind ?_ (fun _ => ?_)
set_option maxHeartbeats 8000000 in
set_option maxRecDepth 100000 in
theorem spec_IsEven.calls (k : Nat) (A0 : Option Addr) (c0 : Nat) (l0 : List (S64)) (a1 : Int) (r1 : Bool) (r2 : Int) (w : World) (hr0 : Kd.C k64 w A0 l0.length l0) (hc0 : l0.length ≤ c0) (h : spec_IsEven.f k l0 a1 = some (r1, r2)) :
    Calls Try.prog 45 #[.slice A0 l0.length c0, .int .i64 a1] w fun e w' => e = .returned (.tuple #[.bool r1, .int .i64 r2]) ∧ Below w.heap.size w w' := by
  have HR0 := aa hr0
  have HC0 := aa hc0
  clear hr0 hc0
  have HB := aa (Below.refl w.heap.size w)
  have H : ((spec_l20Ok.f k l0).bind fun t167 => (if t167 = true then ((spec_l00In.f a1 0 1000000000).bind fun t168 => (if t168 = true then ((spec_l20Moment.f k l0).bind fun t169 => (if 0 < (t169.length : Int) then ((spec_l00Size.f (rd t169 0)).bind fun t173 => (if t173 ≤ a1 then (if 1 < (t169.length : Int) then ((spec_l00Size.f (rd t169 1)).bind fun t175 => (if t175 ≤ a1 then (if 2 < (t169.length : Int) then ((spec_l00Size.f (rd t169 2)).bind fun t177 => (some (decide (t177 ≤ a1), 0))) else (none)) else (some (false, 0)))) else (none)) else (some (false, 0)))) else (none))) else (some (false, 2)))) else (some (false, 1)))) = some (r1, r2) := h
  clear h
  replace H := bl.mp H
  obtain ⟨t167, A30, H⟩ := H
  (try dsimp only at H)
  have A3 := aa A30
  clear A30
  by_cases c4 : t167 = true
  · subst c4
    have H1 := H; rw [if_pos rfl] at H1
    clear H
    have H := H1
    clear H1
    replace H := bl.mp H
    obtain ⟨t168, A50, H⟩ := H
    (try dsimp only at H)
    have A5 := aa A50
    clear A50
    by_cases c6 : t168 = true
    · subst c6
      have H1 := H; rw [if_pos rfl] at H1
      clear H
      have H := H1
      clear H1
      replace H := bl.mp H
      obtain ⟨t169, A70, H⟩ := H
      (try dsimp only at H)
      have A7 := aa A70
      clear A70
      by_cases c8 : 0 < (t169.length : Int)
      · rw [if_pos c8] at H
        have c8b0 : decide (0 < (t169.length : Int)) = true := decide_eq_true c8
        have c8b1 : decide (0 < t169.length) = true := decide_eq_true (by omega)
        clear c8
        replace H := bl.mp H
        obtain ⟨t173, A90, H⟩ := H
        (try dsimp only at H)
        have A9 := aa A90
        clear A90
        by_cases c10 : t173 ≤ a1
        · rw [if_pos c10] at H
          have c10b0 : decide (t173 ≤ a1) = true := decide_eq_true c10
          clear c10
          by_cases c11 : 1 < (t169.length : Int)
          · rw [if_pos c11] at H
            have c11b0 : decide (1 < (t169.length : Int)) = true := decide_eq_true c11
            have c11b1 : decide (1 < t169.length) = true := decide_eq_true (by omega)
            clear c11
            replace H := bl.mp H
            obtain ⟨t175, A120, H⟩ := H
            (try dsimp only at H)
            have A12 := aa A120
            clear A120
            by_cases c13 : t175 ≤ a1
            · rw [if_pos c13] at H
              have c13b0 : decide (t175 ≤ a1) = true := decide_eq_true c13
              clear c13
              by_cases c14 : 2 < (t169.length : Int)
              · rw [if_pos c14] at H
                have c14b0 : decide (2 < (t169.length : Int)) = true := decide_eq_true c14
                have c14b1 : decide (2 < t169.length) = true := decide_eq_true (by omega)
                clear c14
                replace H := bl.mp H
                obtain ⟨t177, A150, H⟩ := H
                replace H : (some (decide (t177 ≤ a1), 0)) = some (r1, r2) := H
                have A15 := aa A150
                clear A150
                simp only [Option.some.injEq, Prod.mk.injEq] at H
                obtain ⟨rfl, rfl⟩ := H
                go_enter Try.func45, Try.ntmps45
                go_wp2_with (first | ((with_reducible refine gate_callee (f := 78) rfl ?_); refine goesL_ (some 8) rfl rfl Try.func78 (by kernel_rfl) rfl #[.slice A0 l0.length c0] rfl (by (try simp only [List.map_toArray, List.map_cons, List.map_nil]); first | done | rfl | (simp only [List.length_drop, List.length_take]; rfl)) ?_; (with_reducible refine (spec_l20Ok.calls k _ _ l0 true _ ?side1 ?side2 A3.out).mono ?_); (case side1 => repeat (first | exact HR0.out | (with_reducible refine ay ?_ _) | (with_reducible refine az ?_ _) | (with_reducible refine ba ?_))); (case side2 => exact HC0.out); rintro e w16 ⟨rfl, hb⟩; refine ⟨_, rfl, ?_⟩; have n0_ := aa (ap (by repeat (first | (with_reducible first | exact HB.out | apply ae | apply ab | apply ac) | exact HB.out)) hb); clear HB; have HB := n0_; clear n0_; (try clear hb); (try clear hb2); (try clear hk); (try clear hi)) | ((with_reducible refine gate_callee (f := 59) rfl ?_); refine goesL_ (some 11) rfl rfl Try.func59 (by kernel_rfl) rfl #[.int .i64 a1, .int .i64 0, .int .i64 1000000000] rfl (by (try simp only [List.map_toArray, List.map_cons, List.map_nil]); first | done | rfl | (simp only [List.length_drop, List.length_take]; rfl)) ?_; (with_reducible refine (spec_l00In.calls a1 0 1000000000 true _ A5.out).mono ?_); rintro e w' ⟨rfl, ⟨nd, rfl⟩⟩; refine ⟨_, rfl, ?_⟩) | ((with_reducible refine gate_callee (f := 84) rfl ?_); refine goesL_ (some 14) rfl rfl Try.func84 (by kernel_rfl) rfl #[.slice A0 l0.length c0] rfl (by (try simp only [List.map_toArray, List.map_cons, List.map_nil]); first | done | rfl | (simp only [List.length_drop, List.length_take]; rfl)) ?_; (with_reducible refine (spec_l20Moment.calls k _ _ l0 t169 _ ?side1 ?side2 A7.out).mono ?_); (case side1 => repeat (first | exact (Kd.C_below HR0.out (by repeat (first | (with_reducible first | exact HB.out | apply ae | apply ab | apply ac) | exact HB.out))) | (with_reducible refine ay ?_ _) | (with_reducible refine az ?_ _) | (with_reducible refine ba ?_))); (case side2 => exact HC0.out); rintro e w17 ⟨v170, rfl, ho0, hb⟩; refine ⟨_, rfl, ?_⟩; have n0_ := aa (bg ho0 (aw (by repeat (first | (with_reducible first | exact HB.out | apply ae | apply ab | apply ac) | exact HB.out)))); have n1_ := aa (ap (by repeat (first | (with_reducible first | exact HB.out | apply ae | apply ab | apply ac) | exact HB.out)) hb); clear HB; have HO171 := n0_; have HB := n1_; clear n0_ n1_; (try clear hb); (try clear hb2); (try clear hk); (try clear hi); (try clear ho0); obtain ⟨Ao18, co18, eo18⟩ := bc HO171.out; subst eo18; have p172 : 0 ≤ (0 : Int) := (by omega); have q172 : 0 < (t169.length : Int) := of_decide_eq_true (by first | (with_reducible assumption) | assumption); obtain ⟨ad172, e172, hx172_0⟩ := be (an HO171.out).2.2 0 p172 q172; cases e172; have qi172 : (0 < t169.length) = True := eq_true (by omega); (try rw [show ((0 : Int)).toNat = 0 from rfl] at hx172_0); (try rw [Addr.add_zero'] at hx172_0); replace p172 := eq_true p172; replace q172 := eq_true q172) | ((with_reducible refine gate_callee (f := 62) rfl ?_); refine goesL_ (some 18) rfl rfl Try.func62 (by kernel_rfl) rfl #[.int .i64 (rd t169 0)] rfl (by (try simp only [List.map_toArray, List.map_cons, List.map_nil]); first | done | rfl | (simp only [List.length_drop, List.length_take]; rfl)) ?_; (with_reducible refine (spec_l00Size.calls (rd t169 0) t173 _ A9.out).mono ?_); rintro e w' ⟨rfl, ⟨nd, rfl⟩⟩; refine ⟨_, rfl, ?_⟩; have p174 : 0 ≤ (1 : Int) := (by omega); have q174 : 1 < (t169.length : Int) := of_decide_eq_true (by first | (with_reducible assumption) | assumption); obtain ⟨ad174, e174, hx174_0⟩ := be (an HO171.out).2.2 1 p174 q174; obtain rfl : ad172 = ad174 := (by injection e174); (try simp only [show (1 : Int).toNat = 1 from rfl, Nat.reduceMul, Nat.reduceEqDiff, Go.Addr.add, ↓reduceIte] at hx174_0); have qi174 : (1 < t169.length) = True := eq_true (by omega); (try rw [show ((1 : Int)).toNat = 1 from rfl] at hx174_0); replace p174 := eq_true p174; replace q174 := eq_true q174) | (go_at_call 62; (with_reducible refine (spec_l00Size.calls (rd t169 1) t175 _ A12.out).mono ?_); rintro e w' ⟨rfl, ⟨nd, rfl⟩⟩; have p176 : 0 ≤ (2 : Int) := (by omega); have q176 : 2 < (t169.length : Int) := of_decide_eq_true (by first | (with_reducible assumption) | assumption); obtain ⟨ad176, e176, hx176_0⟩ := be (an HO171.out).2.2 2 p176 q176; obtain rfl : ad172 = ad176 := (by injection e176); (try simp only [show (2 : Int).toNat = 2 from rfl, Nat.reduceMul, Nat.reduceEqDiff, Go.Addr.add, ↓reduceIte] at hx176_0); have qi176 : (2 < t169.length) = True := eq_true (by omega); (try rw [show ((2 : Int)).toNat = 2 from rfl] at hx176_0); replace p176 := eq_true p176; replace q176 := eq_true q176) | (go_at_call 62; (with_reducible refine (spec_l00Size.calls (rd t169 2) t177 _ A15.out).mono ?_); rintro e w' ⟨rfl, ⟨nd, rfl⟩⟩))
                go_ret2
                exact ⟨by first | rfl | (simp [errW_none, errW_some] <;> rfl) | (simp [*, errW_none, errW_some] <;> rfl), by repeat (first | (with_reducible first | exact HB.out | apply ae | apply ab | apply ac) | exact HB.out)⟩
              · rw [if_neg c14] at H
                exact absurd H (by simp)
            · rw [if_neg c13] at H
              have c13b0 : decide (t175 ≤ a1) = false := decide_eq_false c13
              clear c13
              simp only [Option.some.injEq, Prod.mk.injEq] at H
              obtain ⟨rfl, rfl⟩ := H
              go_enter Try.func45, Try.ntmps45
              go_wp2_with (first | ((with_reducible refine gate_callee (f := 78) rfl ?_); refine goesL_ (some 8) rfl rfl Try.func78 (by kernel_rfl) rfl #[.slice A0 l0.length c0] rfl (by (try simp only [List.map_toArray, List.map_cons, List.map_nil]); first | done | rfl | (simp only [List.length_drop, List.length_take]; rfl)) ?_; (with_reducible refine (spec_l20Ok.calls k _ _ l0 true _ ?side1 ?side2 A3.out).mono ?_); (case side1 => repeat (first | exact HR0.out | (with_reducible refine ay ?_ _) | (with_reducible refine az ?_ _) | (with_reducible refine ba ?_))); (case side2 => exact HC0.out); rintro e w19 ⟨rfl, hb⟩; refine ⟨_, rfl, ?_⟩; have n0_ := aa (ap (by repeat (first | (with_reducible first | exact HB.out | apply ae | apply ab | apply ac) | exact HB.out)) hb); clear HB; have HB := n0_; clear n0_; (try clear hb); (try clear hb2); (try clear hk); (try clear hi)) | ((with_reducible refine gate_callee (f := 59) rfl ?_); refine goesL_ (some 11) rfl rfl Try.func59 (by kernel_rfl) rfl #[.int .i64 a1, .int .i64 0, .int .i64 1000000000] rfl (by (try simp only [List.map_toArray, List.map_cons, List.map_nil]); first | done | rfl | (simp only [List.length_drop, List.length_take]; rfl)) ?_; (with_reducible refine (spec_l00In.calls a1 0 1000000000 true _ A5.out).mono ?_); rintro e w' ⟨rfl, ⟨nd, rfl⟩⟩; refine ⟨_, rfl, ?_⟩) | ((with_reducible refine gate_callee (f := 84) rfl ?_); refine goesL_ (some 14) rfl rfl Try.func84 (by kernel_rfl) rfl #[.slice A0 l0.length c0] rfl (by (try simp only [List.map_toArray, List.map_cons, List.map_nil]); first | done | rfl | (simp only [List.length_drop, List.length_take]; rfl)) ?_; (with_reducible refine (spec_l20Moment.calls k _ _ l0 t169 _ ?side1 ?side2 A7.out).mono ?_); (case side1 => repeat (first | exact (Kd.C_below HR0.out (by repeat (first | (with_reducible first | exact HB.out | apply ae | apply ab | apply ac) | exact HB.out))) | (with_reducible refine ay ?_ _) | (with_reducible refine az ?_ _) | (with_reducible refine ba ?_))); (case side2 => exact HC0.out); rintro e w20 ⟨v170, rfl, ho0, hb⟩; refine ⟨_, rfl, ?_⟩; have n0_ := aa (bg ho0 (aw (by repeat (first | (with_reducible first | exact HB.out | apply ae | apply ab | apply ac) | exact HB.out)))); have n1_ := aa (ap (by repeat (first | (with_reducible first | exact HB.out | apply ae | apply ab | apply ac) | exact HB.out)) hb); clear HB; have HO171 := n0_; have HB := n1_; clear n0_ n1_; (try clear hb); (try clear hb2); (try clear hk); (try clear hi); (try clear ho0); obtain ⟨Ao21, co21, eo21⟩ := bc HO171.out; subst eo21; have p172 : 0 ≤ (0 : Int) := (by omega); have q172 : 0 < (t169.length : Int) := of_decide_eq_true (by first | (with_reducible assumption) | assumption); obtain ⟨ad172, e172, hx172_0⟩ := be (an HO171.out).2.2 0 p172 q172; cases e172; have qi172 : (0 < t169.length) = True := eq_true (by omega); (try rw [show ((0 : Int)).toNat = 0 from rfl] at hx172_0); (try rw [Addr.add_zero'] at hx172_0); replace p172 := eq_true p172; replace q172 := eq_true q172) | ((with_reducible refine gate_callee (f := 62) rfl ?_); refine goesL_ (some 18) rfl rfl Try.func62 (by kernel_rfl) rfl #[.int .i64 (rd t169 0)] rfl (by (try simp only [List.map_toArray, List.map_cons, List.map_nil]); first | done | rfl | (simp only [List.length_drop, List.length_take]; rfl)) ?_; (with_reducible refine (spec_l00Size.calls (rd t169 0) t173 _ A9.out).mono ?_); rintro e w' ⟨rfl, ⟨nd, rfl⟩⟩; refine ⟨_, rfl, ?_⟩; have p174 : 0 ≤ (1 : Int) := (by omega); have q174 : 1 < (t169.length : Int) := of_decide_eq_true (by first | (with_reducible assumption) | assumption); obtain ⟨ad174, e174, hx174_0⟩ := be (an HO171.out).2.2 1 p174 q174; obtain rfl : ad172 = ad174 := (by injection e174); (try simp only [show (1 : Int).toNat = 1 from rfl, Nat.reduceMul, Nat.reduceEqDiff, Go.Addr.add, ↓reduceIte] at hx174_0); have qi174 : (1 < t169.length) = True := eq_true (by omega); (try rw [show ((1 : Int)).toNat = 1 from rfl] at hx174_0); replace p174 := eq_true p174; replace q174 := eq_true q174) | (go_at_call 62; (with_reducible refine (spec_l00Size.calls (rd t169 1) t175 _ A12.out).mono ?_); rintro e w' ⟨rfl, ⟨nd, rfl⟩⟩))
              go_ret2
              exact ⟨by first | rfl | (simp [errW_none, errW_some] <;> rfl) | (simp [*, errW_none, errW_some] <;> rfl), by repeat (first | (with_reducible first | exact HB.out | apply ae | apply ab | apply ac) | exact HB.out)⟩
          · rw [if_neg c11] at H
            exact absurd H (by simp)
        · rw [if_neg c10] at H
          have c10b0 : decide (t173 ≤ a1) = false := decide_eq_false c10
          clear c10
          simp only [Option.some.injEq, Prod.mk.injEq] at H
          obtain ⟨rfl, rfl⟩ := H
          go_enter Try.func45, Try.ntmps45
          go_wp2_with (first | ((with_reducible refine gate_callee (f := 78) rfl ?_); refine goesL_ (some 8) rfl rfl Try.func78 (by kernel_rfl) rfl #[.slice A0 l0.length c0] rfl (by (try simp only [List.map_toArray, List.map_cons, List.map_nil]); first | done | rfl | (simp only [List.length_drop, List.length_take]; rfl)) ?_; (with_reducible refine (spec_l20Ok.calls k _ _ l0 true _ ?side1 ?side2 A3.out).mono ?_); (case side1 => repeat (first | exact HR0.out | (with_reducible refine ay ?_ _) | (with_reducible refine az ?_ _) | (with_reducible refine ba ?_))); (case side2 => exact HC0.out); rintro e w22 ⟨rfl, hb⟩; refine ⟨_, rfl, ?_⟩; have n0_ := aa (ap (by repeat (first | (with_reducible first | exact HB.out | apply ae | apply ab | apply ac) | exact HB.out)) hb); clear HB; have HB := n0_; clear n0_; (try clear hb); (try clear hb2); (try clear hk); (try clear hi)) | ((with_reducible refine gate_callee (f := 59) rfl ?_); refine goesL_ (some 11) rfl rfl Try.func59 (by kernel_rfl) rfl #[.int .i64 a1, .int .i64 0, .int .i64 1000000000] rfl (by (try simp only [List.map_toArray, List.map_cons, List.map_nil]); first | done | rfl | (simp only [List.length_drop, List.length_take]; rfl)) ?_; (with_reducible refine (spec_l00In.calls a1 0 1000000000 true _ A5.out).mono ?_); rintro e w' ⟨rfl, ⟨nd, rfl⟩⟩; refine ⟨_, rfl, ?_⟩) | ((with_reducible refine gate_callee (f := 84) rfl ?_); refine goesL_ (some 14) rfl rfl Try.func84 (by kernel_rfl) rfl #[.slice A0 l0.length c0] rfl (by (try simp only [List.map_toArray, List.map_cons, List.map_nil]); first | done | rfl | (simp only [List.length_drop, List.length_take]; rfl)) ?_; (with_reducible refine (spec_l20Moment.calls k _ _ l0 t169 _ ?side1 ?side2 A7.out).mono ?_); (case side1 => repeat (first | exact (Kd.C_below HR0.out (by repeat (first | (with_reducible first | exact HB.out | apply ae | apply ab | apply ac) | exact HB.out))) | (with_reducible refine ay ?_ _) | (with_reducible refine az ?_ _) | (with_reducible refine ba ?_))); (case side2 => exact HC0.out); rintro e w23 ⟨v170, rfl, ho0, hb⟩; refine ⟨_, rfl, ?_⟩; have n0_ := aa (bg ho0 (aw (by repeat (first | (with_reducible first | exact HB.out | apply ae | apply ab | apply ac) | exact HB.out)))); have n1_ := aa (ap (by repeat (first | (with_reducible first | exact HB.out | apply ae | apply ab | apply ac) | exact HB.out)) hb); clear HB; have HO171 := n0_; have HB := n1_; clear n0_ n1_; (try clear hb); (try clear hb2); (try clear hk); (try clear hi); (try clear ho0); obtain ⟨Ao24, co24, eo24⟩ := bc HO171.out; subst eo24; have p172 : 0 ≤ (0 : Int) := (by omega); have q172 : 0 < (t169.length : Int) := of_decide_eq_true (by first | (with_reducible assumption) | assumption); obtain ⟨ad172, e172, hx172_0⟩ := be (an HO171.out).2.2 0 p172 q172; cases e172; have qi172 : (0 < t169.length) = True := eq_true (by omega); (try rw [show ((0 : Int)).toNat = 0 from rfl] at hx172_0); (try rw [Addr.add_zero'] at hx172_0); replace p172 := eq_true p172; replace q172 := eq_true q172) | ((with_reducible refine gate_callee (f := 62) rfl ?_); refine goesL_ (some 18) rfl rfl Try.func62 (by kernel_rfl) rfl #[.int .i64 (rd t169 0)] rfl (by (try simp only [List.map_toArray, List.map_cons, List.map_nil]); first | done | rfl | (simp only [List.length_drop, List.length_take]; rfl)) ?_; (with_reducible refine (spec_l00Size.calls (rd t169 0) t173 _ A9.out).mono ?_); rintro e w' ⟨rfl, ⟨nd, rfl⟩⟩; refine ⟨_, rfl, ?_⟩))
          go_ret2
          exact ⟨by first | rfl | (simp [errW_none, errW_some] <;> rfl) | (simp [*, errW_none, errW_some] <;> rfl), by repeat (first | (with_reducible first | exact HB.out | apply ae | apply ab | apply ac) | exact HB.out)⟩
      · rw [if_neg c8] at H
        exact absurd H (by simp)
    · replace c6 := Bool.eq_false_iff.mpr c6
      subst c6
      have H1 : (some (false, 2)) = some (r1, r2) := by rw [if_neg (show ¬ (false = true) by decide)] at H; exact H
      clear H
      have H := H1
      clear H1
      simp only [Option.some.injEq, Prod.mk.injEq] at H
      obtain ⟨rfl, rfl⟩ := H
      go_enter Try.func45, Try.ntmps45
      go_wp2_with (first | ((with_reducible refine gate_callee (f := 78) rfl ?_); refine goesL_ (some 8) rfl rfl Try.func78 (by kernel_rfl) rfl #[.slice A0 l0.length c0] rfl (by (try simp only [List.map_toArray, List.map_cons, List.map_nil]); first | done | rfl | (simp only [List.length_drop, List.length_take]; rfl)) ?_; (with_reducible refine (spec_l20Ok.calls k _ _ l0 true _ ?side1 ?side2 A3.out).mono ?_); (case side1 => repeat (first | exact HR0.out | (with_reducible refine ay ?_ _) | (with_reducible refine az ?_ _) | (with_reducible refine ba ?_))); (case side2 => exact HC0.out); rintro e w25 ⟨rfl, hb⟩; refine ⟨_, rfl, ?_⟩; have n0_ := aa (ap (by repeat (first | (with_reducible first | exact HB.out | apply ae | apply ab | apply ac) | exact HB.out)) hb); clear HB; have HB := n0_; clear n0_; (try clear hb); (try clear hb2); (try clear hk); (try clear hi)) | ((with_reducible refine gate_callee (f := 59) rfl ?_); refine goesL_ (some 11) rfl rfl Try.func59 (by kernel_rfl) rfl #[.int .i64 a1, .int .i64 0, .int .i64 1000000000] rfl (by (try simp only [List.map_toArray, List.map_cons, List.map_nil]); first | done | rfl | (simp only [List.length_drop, List.length_take]; rfl)) ?_; (with_reducible refine (spec_l00In.calls a1 0 1000000000 false _ A5.out).mono ?_); rintro e w' ⟨rfl, ⟨nd, rfl⟩⟩; refine ⟨_, rfl, ?_⟩))
      go_ret2
      exact ⟨by first | rfl | (simp [errW_none, errW_some] <;> rfl) | (simp [*, errW_none, errW_some] <;> rfl), by repeat (first | (with_reducible first | exact HB.out | apply ae | apply ab | apply ac) | exact HB.out)⟩
  · replace c4 := Bool.eq_false_iff.mpr c4
    subst c4
    have H1 : (some (false, 1)) = some (r1, r2) := by rw [if_neg (show ¬ (false = true) by decide)] at H; exact H
    clear H
    have H := H1
    clear H1
    simp only [Option.some.injEq, Prod.mk.injEq] at H
    obtain ⟨rfl, rfl⟩ := H
    go_enter Try.func45, Try.ntmps45
    go_wp2_with (first | ((with_reducible refine gate_callee (f := 78) rfl ?_); refine goesL_ (some 8) rfl rfl Try.func78 (by kernel_rfl) rfl #[.slice A0 l0.length c0] rfl (by (try simp only [List.map_toArray, List.map_cons, List.map_nil]); first | done | rfl | (simp only [List.length_drop, List.length_take]; rfl)) ?_; (with_reducible refine (spec_l20Ok.calls k _ _ l0 false _ ?side1 ?side2 A3.out).mono ?_); (case side1 => repeat (first | exact HR0.out | (with_reducible refine ay ?_ _) | (with_reducible refine az ?_ _) | (with_reducible refine ba ?_))); (case side2 => exact HC0.out); rintro e w26 ⟨rfl, hb⟩; refine ⟨_, rfl, ?_⟩; have n0_ := aa (ap (by repeat (first | (with_reducible first | exact HB.out | apply ae | apply ab | apply ac) | exact HB.out)) hb); clear HB; have HB := n0_; clear n0_; (try clear hb); (try clear hb2); (try clear hk); (try clear hi)))
    go_ret2
    exact ⟨by first | rfl | (simp [errW_none, errW_some] <;> rfl) | (simp [*, errW_none, errW_some] <;> rfl), by repeat (first | (with_reducible first | exact HB.out | apply ae | apply ab | apply ac) | exact HB.out)⟩

end Go.Proofs.Ytncejfhmachapaa.QFnBalanceOf
