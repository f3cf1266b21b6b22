/- Walks of the Go functions that the law FnTopOfAll reaches: written by a program of this session. -/
import Derived.Test.YtmgljagkmaoopaaGreatQFnTopOfAllx0
import Derived.Test.YtmgljagkmaoopaaGreatQFnTopOfAllx2
namespace Go.Proofs.YtmgljagkmaoopaaGreat.QFnTopOfAll
open Go.RowKit Go.Proofs.YtmgljagkmaoopaaGreatW.PrintWords Go.Proofs.YtmgljagkmaoopaaGreatW.PrintLast Go.Proofs.YtmgljagkmaoopaaGreatW.PrintMore
attribute [local go_sem] max2_int min2_int max_two min_two max_three min_three max_four min_four
open Go.Proofs.YtmgljagkmaoopaaGreatW.PrintWords renaming below_alloc → ae, below_drew1 → ac, below_set → ak, below_size → al, below_step → af, blk_alloc → am, blk_below → ba, blk_cell → ap, blk_drew → aq, blk_drewN → an, blk_frozen → ao, box_event → bb, gate_dst → az, pw_below_drewN → ab
open Go.Proofs.YtmgljagkmaoopaaGreatW.PrintWords.Aside0 renaming mk → aa
open Go.Proofs.YtmgljagkmaoopaaGreatW.PrintWords.Kd renaming C_alloc → ar, C_below → ay, C_drew → av, C_drewN → au
open Option renaming bind_eq_some_iff → bf
open List renaming length_drop → b0, length_take → b2, map_cons → b4, map_nil → b5, map_toArray → b3
set_option linter.unusedVariables false
set_option linter.unusedSimpArgs false
attribute [local go_sem high] eqA82
def impl_Border_90.l0 : Nat → List (S82) → Int → Int → Int → Int → Option (Int)
 | 0, _, _, _, _, _ => none
 | k + 1, x0, x7, x8, x203000, x203001 => if x8 < x7 then (if 0 ≤ x8 then (if x8 < (x0.length : Int) then (if (x203000 == ((rd_T82 x0 x8).f0) && (x203001 == ((rd_T82 x0 x8).f1))) = true then (some x8) else (impl_Border_90.l0 k x0 x7 (wrap64 (x8 + 1)) x203000 x203001)) else (none)) else (none)) else (some (-1))
def impl_Border_90.f (k : Nat) (l0 : List (S82)) (a1_0 : Int) (a1_1 : Int) : Option (Int) := impl_Border_90.l0 k l0 (l0.length : Int) 0 a1_0 a1_1
theorem impl_Border_90.mono_l : ∀ k, (∀ y0 y1 y2 y3 y4, LeO (impl_Border_90.l0 k y0 y1 y2 y3 y4) (impl_Border_90.l0 (k + 1) y0 y1 y2 y3 y4))
 | 0 => fun _ _ _ _ _ r h => by simp [impl_Border_90.l0] at h
 | k + 1 => by
  have ih0 := impl_Border_90.mono_l k
  ·intro y0 y1 y2 y3 y4; unfold impl_Border_90.l0
   repeat' first
   | (with_reducible exact ih0 _ _ _ _ _)
   | (with_reducible exact LeO.refl _)
   | (with_reducible exact LeO.none _)
   | (with_reducible refine LeO.ite ?_ ?_)
   | (with_reducible refine LeO.bind ?_ (fun _ => ?_))
   | exact ih0 _ _ _ _ _
   | exact LeO.none _
   | refine LeO.ite ?_ ?_
   | refine LeO.bind ?_ (fun _ => ?_)
theorem impl_Border_90.mono : ∀ a0 a1 a2 k, LeO (impl_Border_90.f k a0 a1 a2) (impl_Border_90.f (k + 1) a0 a1 a2) := by
 intro a0 a1 a2 k; have ih0 := impl_Border_90.mono_l k; unfold impl_Border_90.f
 repeat' first
   | (with_reducible exact ih0 _ _ _ _ _)
   | (with_reducible exact LeO.refl _)
   | (with_reducible exact LeO.none _)
   | (with_reducible refine LeO.ite ?_ ?_)
   | (with_reducible refine LeO.bind ?_ (fun _ => ?_))
   | exact ih0 _ _ _ _ _
   | exact LeO.none _
   | refine LeO.ite ?_ ?_
   | refine LeO.bind ?_ (fun _ => ?_)
set_option maxHeartbeats 8000000 in
set_option maxRecDepth 100000 in
theorem impl_Border_90.calls (k : Nat) (A0 : Option Addr) (c0 : Nat) (l0 : List (S82)) (a1_0 : Int) (a1_1 : Int) (r : Int) (w : World) (hr0 : Kd.C k82 w A0 l0.length l0) (hc0 : l0.length ≤ c0) (h : impl_Border_90.f k l0 a1_0 a1_1 = some r) :
  Calls Tryz.prog 90 #[.slice A0 l0.length c0, .agg #[.int .i64 a1_0, .int .i64 a1_1]] w fun e w' => e = .returned (.int .i64 r) ∧ Below w.heap.size w w' := by
 have hu82 := Tryz.underlying82; have HR0 := aa hr0; have HC0 := aa hc0; clear hr0 hc0; have HB := aa (Below.refl w.heap.size w); have H : (impl_Border_90.l0 k l0 (l0.length : Int) 0 a1_0 a1_1) = some r := h; clear h; have H' := aa H; clear H; go_enter Tryz.func90, Tryz.ntmps90
 go_wp2_with (first | ((with_reducible refine az (N := 3) rfl ?_); refine bb ?hg (N := 3) ?hd (cs := #[.int .i64 a1_0, .int .i64 a1_1]) (t := 82) ?hr ?_; (case hd => rfl); (case hg => rfl); (case hr => first | (go_simp; done) | (go_simp; rfl)); intro gb202 hg w3 hbox hb; have n0_ := aa (af (by repeat (first | (with_reducible first | exact HB.out | apply ae | apply ab | apply ac) | exact HB.out)) hb); have n1_ := aa (hbox); have n2_ := aa ((by rw [hg]; exact (al (by repeat (first | (with_reducible first | exact HB.out | apply ae | apply ab | apply ac) | exact HB.out))) : w.heap.size ≤ gb202)); have n3_ := aa ((by rw [hg]; exact (al (by repeat (first | (with_reducible first | exact HB.out | apply ae | apply ab | apply ac) | exact HB.out))) : w.heap.size ≤ gb202)); clear HB; have HB := n0_; have BK202 := n1_; have GW202 := n2_; have GE202 := n3_; clear n0_ n1_ n2_ n3_; clear hb hbox hg))
 repeat (go_quiet (fail); try go_wp2_with (first | ((with_reducible refine az (N := 3) rfl ?_); refine bb ?hg (N := 3) ?hd (cs := #[.int .i64 a1_0, .int .i64 a1_1]) (t := 82) ?hr ?_; (case hd => rfl); (case hg => rfl); (case hr => first | (go_simp; done) | (go_simp; rfl)); intro gb202 hg w3 hbox hb; have n0_ := aa (af (by repeat (first | (with_reducible first | exact HB.out | apply ae | apply ab | apply ac) | exact HB.out)) hb); have n1_ := aa (hbox); have n2_ := aa ((by rw [hg]; exact (al (by repeat (first | (with_reducible first | exact HB.out | apply ae | apply ab | apply ac) | exact HB.out))) : w.heap.size ≤ gb202)); have n3_ := aa ((by rw [hg]; exact (al (by repeat (first | (with_reducible first | exact HB.out | apply ae | apply ab | apply ac) | exact HB.out))) : w.heap.size ≤ gb202)); clear HB; have HB := n0_; have BK202 := n1_; have GW202 := n2_; have GE202 := n3_; clear n0_ n1_ n2_ n3_; clear hb hbox hg)))
 go_loopg [8] k (fun kq v8 w' => ∃ (x8_1 : Int), v8 = .int .i64 x8_1 ∧ Aside0 (impl_Border_90.l0 kq l0 (l0.length : Int) x8_1 a1_0 a1_1 = some r) ∧ Aside0 (kq ≤ k) ∧ Aside0 (w'.heap[gb202]? = some (.cells #[.int .i64 a1_0, .int .i64 a1_1] 82 (0, 0))) ∧ Aside0 (Below w.heap.size w w'))
 case atStart => exact ⟨(0), (by first | rfl | (simp; done) | (simp [*]; done)), H', ⟨Nat.le_refl _⟩, ⟨by (with_reducible repeat (first | refine an ?_ _ | refine aq ?_ | refine am ?_ _)); exact BK202.out⟩, ⟨by repeat (first | (with_reducible first | exact HB.out | apply ae | apply ab | apply ac | refine ak ?_ GE202.out) | exact HB.out)⟩⟩
 case round =>
  clear H'; (try clear p2); obtain ⟨x8_1, rfl, HA, HK1, BK202, HB⟩ := hrel
  cases gk with
  | zero => exact absurd HA.out (by simp [impl_Border_90.l0])
  | succ k1 =>
   have H := HA.out; clear HA; simp only [impl_Border_90.l0] at H; by_cases c4 : x8_1 < (l0.length : Int)
   ·rw [if_pos c4] at H; have c4b0 : decide (x8_1 < (l0.length : Int)) = true := decide_eq_true c4; clear c4; by_cases c5 : 0 ≤ x8_1
    ·rw [if_pos c5] at H; have c5b0 : decide (0 ≤ x8_1) = true := decide_eq_true c5; clear c5; by_cases c6 : x8_1 < (l0.length : Int)
     ·rw [if_pos c6] at H; have c6b0 : decide (x8_1 < (l0.length : Int)) = true := decide_eq_true c6; clear c6; by_cases c7 : (a1_0 == ((rd_T82 l0 x8_1).f0) && (a1_1 == ((rd_T82 l0 x8_1).f1))) = true
      ·rw [if_pos c7] at H; have c7b0 : (a1_0 == ((rd_T82 l0 x8_1).f0) && (a1_1 == ((rd_T82 l0 x8_1).f1))) = true := c7; (try (have c7b1 : decide (a1_0 = ((rd_T82 l0 x8_1).f0) && (a1_1 == ((rd_T82 l0 x8_1).f1))) = true := by simpa using c7)); (try (have c7b2 : (a1_0 == ((rd_T82 l0 x8_1).f0) && (a1_1 == ((rd_T82 l0 x8_1).f1))) = true := by simpa using c7)); clear c7; obtain rfl := Option.some.inj H; have hcz8_0 : wr.cell? ⟨gb202, 0, none⟩ = some (.int .i64 a1_0) := (ap BK202.out 0).trans rfl; have hcz8_1 : wr.cell? ⟨gb202, 1, none⟩ = some (.int .i64 a1_1) := (ap BK202.out 1).trans rfl; have hfz8_0 := ao BK202.out 0; have hfz8_1 := ao BK202.out 1; have p203 : 0 ≤ (x8_1 : Int) := of_decide_eq_true (by first | (with_reducible assumption) | assumption); have q203 : x8_1 < (l0.length : Int) := of_decide_eq_true (by first | (with_reducible assumption) | assumption); obtain ⟨ad203, e203, hx203_0, hx203_1⟩ := at_T82 HR0.out x8_1 p203 q203
       cases e203
       replace hx203_0 := (HB.out.cell (World.block_lt_of_cell? w _ hx203_0)).trans hx203_0; replace hx203_1 := (HB.out.cell (World.block_lt_of_cell? w _ hx203_1)).trans hx203_1; replace p203 := eq_true p203; replace q203 := eq_true q203; go_wp2; (repeat (go_quiet (fail); try go_wp2)); go_ret; exact ⟨by first | rfl | (simp [errW_none, errW_some] <;> rfl) | (simp [*, errW_none, errW_some] <;> rfl), by repeat (first | (with_reducible first | exact HB.out | apply ae | apply ab | apply ac | refine ak ?_ GE202.out) | exact HB.out)⟩
      ·rw [if_neg c7] at H; (have c7b0 : (a1_0 == ((rd_T82 l0 x8_1).f0) && (a1_1 == ((rd_T82 l0 x8_1).f1))) = false := by simpa using c7); (try (have c7b1 : decide (a1_0 = ((rd_T82 l0 x8_1).f0) && (a1_1 == ((rd_T82 l0 x8_1).f1))) = false := by simpa using c7)); (try (have c7b2 : (a1_0 == ((rd_T82 l0 x8_1).f0) && (a1_1 == ((rd_T82 l0 x8_1).f1))) = false := by simpa using c7)); (try (have c7b3 : ¬ (a1_0 = ((rd_T82 l0 x8_1).f0) && (a1_1 == ((rd_T82 l0 x8_1).f1))) := by simpa using c7)); clear c7; have H' := aa H; clear H; have hcz9_0 : wr.cell? ⟨gb202, 0, none⟩ = some (.int .i64 a1_0) := (ap BK202.out 0).trans rfl; have hcz9_1 : wr.cell? ⟨gb202, 1, none⟩ = some (.int .i64 a1_1) := (ap BK202.out 1).trans rfl; have hfz9_0 := ao BK202.out 0; have hfz9_1 := ao BK202.out 1; have p203 : 0 ≤ (x8_1 : Int) := of_decide_eq_true (by first | (with_reducible assumption) | assumption); have q203 : x8_1 < (l0.length : Int) := of_decide_eq_true (by first | (with_reducible assumption) | assumption); obtain ⟨ad203, e203, hx203_0, hx203_1⟩ := at_T82 HR0.out x8_1 p203 q203
       cases e203
       replace hx203_0 := (HB.out.cell (World.block_lt_of_cell? w _ hx203_0)).trans hx203_0; replace hx203_1 := (HB.out.cell (World.block_lt_of_cell? w _ hx203_1)).trans hx203_1; replace p203 := eq_true p203; replace q203 := eq_true q203; go_wp2; (repeat (go_quiet (fail); try go_wp2)); go_roundg k1
       case measure => have := HK1.out; omega
       case rel => exact ⟨(wrap64 (x8_1 + 1)), (by first | rfl | (simp; done) | (simp [*]; done)), H', ⟨by have := HK1.out; omega⟩, ⟨by (with_reducible repeat (first | refine an ?_ _ | refine aq ?_ | refine am ?_ _)); exact BK202.out⟩, ⟨by repeat (first | (with_reducible first | exact HB.out | apply ae | apply ab | apply ac | refine ak ?_ GE202.out) | exact HB.out)⟩⟩
     ·rw [if_neg c6] at H; exact absurd H (by simp)
    ·rw [if_neg c5] at H; exact absurd H (by simp)
   ·rw [if_neg c4] at H; have c4b0 : decide (x8_1 < (l0.length : Int)) = false := decide_eq_false c4; clear c4; obtain rfl := Option.some.inj H; go_wp2; (repeat (go_quiet (fail); try go_wp2)); go_ret; exact ⟨by first | rfl | (simp [errW_none, errW_some] <;> rfl) | (simp [*, errW_none, errW_some] <;> rfl), by repeat (first | (with_reducible first | exact HB.out | apply ae | apply ab | apply ac | refine ak ?_ GE202.out) | exact HB.out)⟩
def impl_Border_70.f (k : Nat) (l0 : List (S82)) (a1_0 : Int) (a1_1 : Int) : Option (Bool) := (impl_Border_90.f k l0 a1_0 a1_1).bind fun t205 => (some (decide (t205 ≥ 0)))
theorem impl_Border_70.mono : ∀ a0 a1 a2 k, LeO (impl_Border_70.f k a0 a1 a2) (impl_Border_70.f (k + 1) a0 a1 a2) := by
 intro a0 a1 a2 k; unfold impl_Border_70.f
 repeat' first
   | (with_reducible exact impl_Border_90.mono _ _ _ _)
   | (with_reducible exact LeO.refl _)
   | (with_reducible exact LeO.none _)
   | (with_reducible refine LeO.ite ?_ ?_)
   | (with_reducible refine LeO.bind ?_ (fun _ => ?_))
   | exact impl_Border_90.mono _ _ _ _
   | exact LeO.none _
   | refine LeO.ite ?_ ?_
   | refine LeO.bind ?_ (fun _ => ?_)
set_option maxHeartbeats 8000000 in
set_option maxRecDepth 100000 in
theorem impl_Border_70.calls (k : Nat) (A0 : Option Addr) (c0 : Nat) (l0 : List (S82)) (a1_0 : Int) (a1_1 : Int) (r : Bool) (w : World) (hr0 : Kd.C k82 w A0 l0.length l0) (hc0 : l0.length ≤ c0) (h : impl_Border_70.f k l0 a1_0 a1_1 = some r) :
  Calls Tryz.prog 70 #[.slice A0 l0.length c0, .agg #[.int .i64 a1_0, .int .i64 a1_1]] w fun e w' => e = .returned (.bool r) ∧ Below w.heap.size w w' := by
 have hu82 := Tryz.underlying82; have HR0 := aa hr0; have HC0 := aa hc0; clear hr0 hc0; have HB := aa (Below.refl w.heap.size w); have H : ((impl_Border_90.f k l0 a1_0 a1_1).bind fun t205 => (some (decide (t205 ≥ 0)))) = some r := h; clear h; replace H := bf.mp H; obtain ⟨t205, A30, H⟩ := H; replace H : (some (decide (t205 ≥ 0))) = some r := H; have A3 := aa A30; clear A30; obtain rfl := Option.some.inj H; go_enter Tryz.func70, Tryz.ntmps70
 go_wp2_with (first | ((with_reducible refine az (N := 3) rfl ?_); refine bb ?hg (N := 3) ?hd (cs := #[.int .i64 a1_0, .int .i64 a1_1]) (t := 82) ?hr ?_; (case hd => rfl); (case hg => rfl); (case hr => first | (go_simp; done) | (go_simp; rfl)); intro gb204 hg w4 hbox hb; have n0_ := aa (af (by repeat (first | (with_reducible first | exact HB.out | apply ae | apply ab | apply ac) | exact HB.out)) hb); have n1_ := aa (hbox); have n2_ := aa ((by rw [hg]; exact (al (by repeat (first | (with_reducible first | exact HB.out | apply ae | apply ab | apply ac) | exact HB.out))) : w.heap.size ≤ gb204)); have n3_ := aa ((by rw [hg]; exact (al (by repeat (first | (with_reducible first | exact HB.out | apply ae | apply ab | apply ac) | exact HB.out))) : w.heap.size ≤ gb204)); clear HB; have HB := n0_; have BK204 := n1_; have GW204 := n2_; have GE204 := n3_; clear n0_ n1_ n2_ n3_; clear hb hbox hg; have hcz5_0 : w4.cell? ⟨gb204, 0, none⟩ = some (.int .i64 a1_0) := (ap BK204.out 0).trans rfl; have hcz5_1 : w4.cell? ⟨gb204, 1, none⟩ = some (.int .i64 a1_1) := (ap BK204.out 1).trans rfl; have hfz5_0 := ao BK204.out 0; have hfz5_1 := ao BK204.out 1) | ((with_reducible refine gate_callee (f := 90) rfl ?_); refine goesL_ (some 7) rfl rfl Tryz.func90 (by kernel_rfl) rfl #[.slice A0 l0.length c0, .agg #[.int .i64 a1_0, .int .i64 a1_1]] rfl (by (try simp only [b3, b4, b5]); first | done | rfl | (simp only [b0, b2]; rfl)) ?_; (with_reducible refine (impl_Border_90.calls k _ _ l0 a1_0 a1_1 t205 _ ?side1 ?side2 A3.out).mono ?_); (case side1 => repeat (first | exact (ay HR0.out HB.out) | (with_reducible refine ar ?_ _) | (with_reducible refine au ?_ _) | (with_reducible refine av ?_))); (case side2 => exact HC0.out); rintro e w6 ⟨rfl, hb⟩; refine ⟨_, rfl, ?_⟩; have n0_ := aa (ba (g := gb204) (o := .cells #[.int .i64 a1_0, .int .i64 a1_1] 82 (0, 0)) (by (with_reducible repeat (first | refine an ?_ _ | refine aq ?_ | refine am ?_ _)); exact BK204.out) hb); have n1_ := aa (af (by repeat (first | (with_reducible first | exact HB.out | apply ae | apply ab | apply ac | refine ak ?_ GE204.out) | exact HB.out)) hb); clear BK204; clear HB; have BK204 := n0_; have HB := n1_; clear n0_ n1_; (try clear hb); (try clear hb2); (try clear hk); (try clear hi)))
 go_ret; exact ⟨by first | rfl | (simp [errW_none, errW_some] <;> rfl) | (simp [*, errW_none, errW_some] <;> rfl), by repeat (first | (with_reducible first | exact HB.out | apply ae | apply ab | apply ac | refine ak ?_ GE204.out) | exact HB.out)⟩
end Go.Proofs.YtmgljagkmaoopaaGreat.QFnTopOfAll
