/- Walks of the Go functions that the law FnTopOfAll reaches: written by a program of this session. -/
import Derived.Test.YtmgljagkmaoopaaGreatQFnTopOfAllx0
import Derived.Test.YtmgljagkmaoopaaGreatQFnTopOfAllx3
import Derived.Test.YtmgljagkmaoopaaGreatQFnTopOfAllx8
namespace Go.Proofs.YtmgljagkmaoopaaGreat.QFnTopOfAll
open Go.RowKit Go.Proofs.YtmgljagkmaoopaaGreatW.PrintWords Go.Proofs.YtmgljagkmaoopaaGreatW.PrintLast Go.Proofs.YtmgljagkmaoopaaGreatW.PrintMore
attribute [local go_sem] max2_int min2_int max_two min_two max_three min_three max_four min_four
open Go.Proofs.YtmgljagkmaoopaaGreatW.PrintWords renaming below_alloc → ae, below_drew1 → ac, below_set → ak, below_size → al, below_step → af, blk_alloc → am, blk_below → ba, blk_cell → ap, blk_drew → aq, blk_drewN → an, blk_frozen → ao, box_event → bb, gate_dst → az, pw_below_drewN → ab
open Go.Proofs.YtmgljagkmaoopaaGreatW.PrintWords.Aside0 renaming mk → aa
open Go.Proofs.YtmgljagkmaoopaaGreatW.PrintWords.Kd renaming C_alloc → ar, C_below → ay, C_drew → av, C_drewN → au
open Option renaming bind_eq_some_iff → bf
open List renaming length_drop → b0, length_take → b2, map_cons → b4, map_nil → b5, map_toArray → b3, setIfInBounds_toArray → a7, set_cons_succ → a9, set_cons_zero → a8
open Option renaming bind_some → b6
set_option linter.unusedVariables false
set_option linter.unusedSimpArgs false
def impl_ValidBorders.l0 : Nat → Int → List (S82) → List (S82) → Int → Int → Option (Bool)
 | 0, _, _, _, _, _ => none
 | k + 1, x0, x1, x7, x8, x9 => if x9 < x8 then (if 0 ≤ x9 then (if x9 < (x7.length : Int) then (if ((rd_T82 x7 x9).f0) < 0 then (some false) else (if ((rd_T82 x7 x9).f0) ≥ ((rd_T82 x7 x9).f1) then (some false) else (if ((rd_T82 x7 x9).f1) ≥ x0 then (some false) else (if x9 ≤ (x1.length : Int) then ((impl_Border_70.f k (x1.take (x9 : Int).toNat) ((rd_T82 x7 x9).f0) ((rd_T82 x7 x9).f1)).bind fun t212 => (if t212 = true then (some false) else (impl_ValidBorders.l0 k x0 x1 x7 x8 (wrap64 (x9 + 1))))) else (none))))) else (none)) else (none)) else ((impl_within.f x0 1 10).bind fun t213 => (if t213 = true then (some (decide ((x1.length : Int) ≤ 30))) else (some false)))
def impl_ValidBorders.f (k : Nat) (a0 : Int) (l1 : List (S82)) : Option (Bool) := impl_ValidBorders.l0 k a0 l1 l1 (l1.length : Int) 0
theorem impl_ValidBorders.mono_l : ∀ k, (∀ y0 y1 y2 y3 y4, LeO (impl_ValidBorders.l0 k y0 y1 y2 y3 y4) (impl_ValidBorders.l0 (k + 1) y0 y1 y2 y3 y4))
 | 0 => fun _ _ _ _ _ r h => by simp [impl_ValidBorders.l0] at h
 | k + 1 => by
  have ih0 := impl_ValidBorders.mono_l k
  ·intro y0 y1 y2 y3 y4; unfold impl_ValidBorders.l0
   repeat' first
   | (with_reducible exact ih0 _ _ _ _ _)
   | (with_reducible exact impl_Border_70.mono _ _ _ _)
   | (with_reducible exact LeO.refl _)
   | (with_reducible exact LeO.none _)
   | (with_reducible refine LeO.ite ?_ ?_)
   | (with_reducible refine LeO.bind ?_ (fun _ => ?_))
   | exact ih0 _ _ _ _ _
   | exact impl_Border_70.mono _ _ _ _
   | exact LeO.none _
   | refine LeO.ite ?_ ?_
   | refine LeO.bind ?_ (fun _ => ?_)
theorem impl_ValidBorders.mono : ∀ a0 a1 k, LeO (impl_ValidBorders.f k a0 a1) (impl_ValidBorders.f (k + 1) a0 a1) := by
 intro a0 a1 k; have ih0 := impl_ValidBorders.mono_l k; unfold impl_ValidBorders.f
 repeat' first
   | (with_reducible exact ih0 _ _ _ _ _)
   | (with_reducible exact impl_Border_70.mono _ _ _ _)
   | (with_reducible exact LeO.refl _)
   | (with_reducible exact LeO.none _)
   | (with_reducible refine LeO.ite ?_ ?_)
   | (with_reducible refine LeO.bind ?_ (fun _ => ?_))
   | exact ih0 _ _ _ _ _
   | exact impl_Border_70.mono _ _ _ _
   | exact LeO.none _
   | refine LeO.ite ?_ ?_
   | refine LeO.bind ?_ (fun _ => ?_)
def impl_ValidBorders.T4 : Bool × List (List Nat × List Nat) := (true, [([], []), ([0], [0]), ([1], [1]), ([2], [2]), ([3], [3]), ([4, 3], [3, 4]), ([3], [3]), ([6, 3], [3, 6]), ([5, 7, 3], [3, 5, 7]), ([3, 8], [3, 8]), ([9, 3], [9]), ([10], [10]), ([11, 10], [10, 11]), ([10], [10]), ([12, 13, 10], [10, 12, 13]), ([10, 14], [10, 14]), ([15, 10], [15]), ([16], [16]), ([16], [16]), ([17, 18, 16], [16, 17, 18]), ([16], [16]), ([19, 20, 16, 16], [16, 19, 20]), ([16, 21], [16, 21])])
def impl_ValidBorders.B4 : List Nat := [0, 1, 3, 7, 15, 31, 15, 79, 255, 511, 1023, 2047, 4095, 2047, 16383, 32767, 65535, 131071, 131071, 524287, 131071, 2097151, 4194303]
theorem impl_ValidBorders.tab4 : rtab .any (opsOf Tryz.f39 4) = impl_ValidBorders.T4 := by kernel_rfl
theorem impl_ValidBorders.bits4 : waitsOk impl_ValidBorders.T4.2 impl_ValidBorders.B4 = true := by kernel_rfl
set_option maxHeartbeats 8000000 in
set_option maxRecDepth 100000 in
theorem impl_ValidBorders.calls (k : Nat) (a0 : Int) (A1 : Option Addr) (c1 : Nat) (l1 : List (S82)) (r : Bool) (w : World) (hr1 : Kd.C k82 w A1 l1.length l1) (hc1 : l1.length ≤ c1) (h : impl_ValidBorders.f k a0 l1 = some r) :
  Calls Tryz.prog 39 #[.int .i64 a0, .slice A1 l1.length c1] w fun e w' => e = .returned (.bool r) ∧ Below w.heap.size w w' := by
 have hu82 := Tryz.underlying82; have HR1 := aa hr1; have HC1 := aa hc1; clear hr1 hc1; have HB := aa (Below.refl w.heap.size w); have H : (impl_ValidBorders.l0 k a0 l1 l1 (l1.length : Int) 0) = some r := h; clear h; have H' := aa H; clear H; go_enter Tryz.func39, Tryz.ntmps39; go_wp2
 go_loopg [9] k (fun kq v9 w' => ∃ (x9_1 : Int), v9 = .int .i64 x9_1 ∧ Aside0 (impl_ValidBorders.l0 kq a0 l1 l1 (l1.length : Int) x9_1 = some r) ∧ Aside0 (kq ≤ k) ∧ Aside0 (Below w.heap.size w w'))
 case atStart => exact ⟨(0), (by first | rfl | (simp; done) | (simp [*]; done)), H', ⟨Nat.le_refl _⟩, ⟨by repeat (first | (with_reducible first | exact HB.out | apply ae | apply ab | apply ac) | exact HB.out)⟩⟩
 case round =>
  clear H'; (try clear c1); (try clear p2); obtain ⟨x9_1, rfl, HA, HK1, HB⟩ := hrel
  cases gk with
  | zero => exact absurd HA.out (by simp [impl_ValidBorders.l0])
  | succ k1 =>
   have H := HA.out; clear HA; simp only [impl_ValidBorders.l0] at H; by_cases c3 : x9_1 < (l1.length : Int)
   ·rw [if_pos c3] at H; have c3b0 : decide (x9_1 < (l1.length : Int)) = true := decide_eq_true c3; clear c3; by_cases c4 : 0 ≤ x9_1
    ·rw [if_pos c4] at H; have c4b0 : decide (0 ≤ x9_1) = true := decide_eq_true c4; clear c4; by_cases c5 : x9_1 < (l1.length : Int)
     ·rw [if_pos c5] at H; have c5b0 : decide (x9_1 < (l1.length : Int)) = true := decide_eq_true c5; clear c5; by_cases c6 : ((rd_T82 l1 x9_1).f0) < 0
      ·rw [if_pos c6] at H; have c6b0 : decide (((rd_T82 l1 x9_1).f0) < 0) = true := decide_eq_true c6; clear c6; obtain rfl := Option.some.inj H; have p206 : 0 ≤ (x9_1 : Int) := of_decide_eq_true (by first | (with_reducible assumption) | assumption); have q206 : x9_1 < (l1.length : Int) := of_decide_eq_true (by first | (with_reducible assumption) | assumption); obtain ⟨ad206, e206, hx206_0, hx206_1⟩ := at_T82 HR1.out x9_1 p206 q206
       cases e206
       replace hx206_0 := (HB.out.cell (World.block_lt_of_cell? w _ hx206_0)).trans hx206_0; replace hx206_1 := (HB.out.cell (World.block_lt_of_cell? w _ hx206_1)).trans hx206_1; replace p206 := eq_true p206; replace q206 := eq_true q206; (try go_wp2_with (first | ((with_reducible refine az (N := 6) rfl ?_); (try (refine gate_guard (by rfl) ?_; dsimp only)); refine bb ?hg (N := 6) ?hd (cs := #[.int .i64 0, .int .i64 0]) (t := 82) ?hr ?_; (case hd => rfl); (case hg => rfl); (case hr => first | (go_simp; done) | (go_simp; rfl)); intro gb207 hg w7 hbox hb; have n0_ := aa (af (by repeat (first | (with_reducible first | exact HB.out | apply ae | apply ab | apply ac) | exact HB.out)) hb); have n1_ := aa (hbox); have n2_ := aa ((by rw [hg]; exact (al (by repeat (first | (with_reducible first | exact HB.out | apply ae | apply ab | apply ac) | exact HB.out))) : w.heap.size ≤ gb207)); have n3_ := aa ((by rw [hg]; exact (al (by repeat (first | (with_reducible first | exact HB.out | apply ae | apply ab | apply ac) | exact HB.out))) : w.heap.size ≤ gb207)); clear HB; have HB := n0_; have BK207 := n1_; have GW207 := n2_; have GE207 := n3_; clear n0_ n1_ n2_ n3_; clear hb hbox hg; have hcz8_0 : w7.cell? ⟨gb207, 0, none⟩ = some (.int .i64 0) := (ap BK207.out 0).trans rfl; have hcz8_1 : w7.cell? ⟨gb207, 1, none⟩ = some (.int .i64 0) := (ap BK207.out 1).trans rfl; have hfz8_0 := ao BK207.out 0; have hfz8_1 := ao BK207.out 1))); have n0_ : Aside0 (((w7.setCell ⟨gb207, 0, none⟩ (.int .i64 ((rd_T82 l1 x9_1).f0))).setCell ⟨gb207, 1, none⟩ (.int .i64 ((rd_T82 l1 x9_1).f1))).heap[gb207]? = some (.cells #[.int .i64 ((rd_T82 l1 x9_1).f0), .int .i64 ((rd_T82 l1 x9_1).f1)] 82 (0, 0))) := ⟨by (with_reducible repeat (first | refine an ?_ _ | refine aq ?_ | refine am ?_ _)); refine blk_put (cs := #[.int .i64 ((rd_T82 l1 x9_1).f0), .int .i64 0]) ?_ 1 _ rfl; (with_reducible repeat (first | refine an ?_ _ | refine aq ?_ | refine am ?_ _)); refine blk_put (cs := #[.int .i64 0, .int .i64 0]) ?_ 0 _ rfl; (with_reducible repeat (first | refine an ?_ _ | refine aq ?_ | refine am ?_ _)); exact BK207.out⟩; have n1_ : Aside0 (Below w.heap.size w ((w7.setCell ⟨gb207, 0, none⟩ (.int .i64 ((rd_T82 l1 x9_1).f0))).setCell ⟨gb207, 1, none⟩ (.int .i64 ((rd_T82 l1 x9_1).f1)))) := ⟨by repeat (first | (with_reducible first | exact HB.out | apply ae | apply ab | apply ac | refine ak ?_ GE207.out) | exact HB.out)⟩; (try clear BK207); (try clear HB); generalize ((w7.setCell ⟨gb207, 0, none⟩ (.int .i64 ((rd_T82 l1 x9_1).f0))).setCell ⟨gb207, 1, none⟩ (.int .i64 ((rd_T82 l1 x9_1).f1))) = w9 at n0_ n1_ ⊢; have BK207 := n0_; have HB := n1_; clear n0_ n1_; have n0_ := aa (aq BK207.out); have n1_ := aa (ac HB.out); clear BK207; clear HB; have BK207 := n0_; have HB := n1_; clear n0_ n1_; refine start_ (n := 23) (S := fun w' => w'.cell? ⟨gb207, 0, none⟩ = some (.int .i64 ((rd_T82 l1 x9_1).f0)) ∧ w'.cell? ⟨gb207, 1, none⟩ = some (.int .i64 ((rd_T82 l1 x9_1).f1))) (ds := []) #[false, false, false, false, false, false, false, false, false, false, false, false, false, false, false, false, false, false, false, false, false, false, false] (by kernel_rfl) rfl rfl ⟨(ap BK207.out 0).trans rfl, (ap BK207.out 1).trans rfl⟩ (fun hHeld => ?_); refine with_tabW impl_ValidBorders.tab4 impl_ValidBorders.bits4 (fun HT_ HW_ => ?_); generalize w9.drew = w10 at BK207 HB hHeld ⊢; refine pure_ (i := 0) (N := some 14) (v := ?_) (a' := ?_) #[true, false, false, false, false, false, false, false, false, false, false, false, false, false, false, false, false, false, false, false, false, false, false] rfl rfl (any_of HT_.out (by kernel_rfl)) (fun _ _ _ h => h) (Or.inl ⟨by rfl, ?_⟩) ?_ ?_; rotate_left
       ·intro w'; go_simp; (with_reducible rfl)
       rotate_left
       ·simp only [Act.put, a7, a8, a9, i64_w, i32_w]; rfl
       refine take_ (i := 1) (N := some 15) (v := ?_) (a' := ?_) #[true, true, false, false, false, false, false, false, false, false, false, false, false, false, false, false, false, false, false, false, false, false, false] rfl rfl (take_ofW HT_.out HW_.out (by kernel_rfl)) (fun _ _ _ h => h) (Or.inl ⟨by rfl, ?_⟩) hHeld ?_ ?_; rotate_left
       ·rintro w' ⟨s0, s1⟩; go_simp; (with_reducible rfl)
       rotate_left
       ·simp only [Act.put, a7, a8, a9, i64_w, i32_w]; rfl
       refine pure_ (i := 2) (N := some 16) (v := ?_) (a' := ?_) #[true, true, true, false, false, false, false, false, false, false, false, false, false, false, false, false, false, false, false, false, false, false, false] rfl rfl (any_of HT_.out (by kernel_rfl)) (fun _ _ _ h => h) (Or.inl ⟨by rfl, ?_⟩) ?_ ?_; rotate_left
       ·intro w'; go_simp; (with_reducible rfl)
       rotate_left
       ·simp only [Act.put, a7, a8, a9, i64_w, i32_w]; rfl
       refine pure_ (i := 3) (N := some 17) (v := ?_) (a' := ?_) #[true, true, true, true, false, false, false, false, false, false, false, false, false, false, false, false, false, false, false, false, false, false, false] rfl rfl (any_of HT_.out (by kernel_rfl)) (fun _ _ _ h => h) (Or.inl ⟨by rfl, ?_⟩) ?_ ?_; rotate_left
       ·intro w'; go_simp; (with_reducible rfl)
       rotate_left
       ·simp only [Act.put, a7, a8, a9, i64_w, i32_w]; rfl
       refine pure_ (i := 4) (N := some 18) (v := undef) (a' := ?_) #[true, true, true, true, true, false, false, false, false, false, false, false, false, false, false, false, false, false, false, false, false, false, false] rfl rfl (any_of HT_.out (by kernel_rfl)) (fun _ _ _ h => h) (Or.inr ⟨by rfl, rfl⟩) ?_ ?_; rotate_left
       ·simp only [Act.put, a7, a8, a9, i64_w, i32_w]; rfl
       refine pure_ (i := 5) (N := some 19) (v := undef) (a' := ?_) #[true, true, true, true, true, true, false, false, false, false, false, false, false, false, false, false, false, false, false, false, false, false, false] rfl rfl (any_of HT_.out (by kernel_rfl)) (fun _ _ _ h => h) (Or.inr ⟨by rfl, rfl⟩) ?_ ?_; rotate_left
       ·simp only [Act.put, a7, a8, a9, i64_w, i32_w]; rfl
       refine pure_ (i := 6) (N := some 20) (v := undef) (a' := ?_) #[true, true, true, true, true, true, true, false, false, false, false, false, false, false, false, false, false, false, false, false, false, false, false] rfl rfl (any_of HT_.out (by kernel_rfl)) (fun _ _ _ h => h) (Or.inr ⟨by rfl, rfl⟩) ?_ ?_; rotate_left
       ·simp only [Act.put, a7, a8, a9, i64_w, i32_w]; rfl
       refine pure_ (i := 7) (N := some 21) (v := undef) (a' := ?_) #[true, true, true, true, true, true, true, true, false, false, false, false, false, false, false, false, false, false, false, false, false, false, false] rfl rfl (any_of HT_.out (by kernel_rfl)) (fun _ _ _ h => h) (Or.inr ⟨by rfl, rfl⟩) ?_ ?_; rotate_left
       ·simp only [Act.put, a7, a8, a9, i64_w, i32_w]; rfl
       refine pure_ (i := 8) (N := some 22) (v := undef) (a' := ?_) #[true, true, true, true, true, true, true, true, true, false, false, false, false, false, false, false, false, false, false, false, false, false, false] rfl rfl (any_of HT_.out (by kernel_rfl)) (fun _ _ _ h => h) (Or.inr ⟨by rfl, rfl⟩) ?_ ?_; rotate_left
       ·simp only [Act.put, a7, a8, a9, i64_w, i32_w]; rfl
       refine pure_ (i := 9) (N := some 23) (v := ?_) (a' := ?_) #[true, true, true, true, true, true, true, true, true, true, false, false, false, false, false, false, false, false, false, false, false, false, false] rfl rfl (any_of HT_.out (by kernel_rfl)) (fun _ _ _ h => h) (Or.inl ⟨by rfl, ?_⟩) ?_ ?_; rotate_left
       ·intro w'; go_simp; (with_reducible rfl)
       rotate_left
       ·simp only [Act.put, a7, a8, a9, i64_w, i32_w]; rfl
       refine pure_ (i := 10) (N := some 24) (v := ?_) (a' := ?_) #[true, true, true, true, true, true, true, true, true, true, true, false, false, false, false, false, false, false, false, false, false, false, false] rfl rfl (any_of HT_.out (by kernel_rfl)) (fun _ _ _ h => h) (Or.inl ⟨by rfl, ?_⟩) ?_ ?_; rotate_left
       ·intro w'; go_simp; (with_reducible rfl)
       rotate_left
       ·simp only [Act.put, a7, a8, a9, i64_w, i32_w]; rfl
       refine pure_ (i := 11) (N := some 25) (v := undef) (a' := ?_) #[true, true, true, true, true, true, true, true, true, true, true, true, false, false, false, false, false, false, false, false, false, false, false] rfl rfl (any_of HT_.out (by kernel_rfl)) (fun _ _ _ h => h) (Or.inr ⟨by rfl, rfl⟩) ?_ ?_; rotate_left
       ·simp only [Act.put, a7, a8, a9, i64_w, i32_w]; rfl
       refine pure_ (i := 12) (N := some 26) (v := undef) (a' := ?_) #[true, true, true, true, true, true, true, true, true, true, true, true, true, false, false, false, false, false, false, false, false, false, false] rfl rfl (any_of HT_.out (by kernel_rfl)) (fun _ _ _ h => h) (Or.inr ⟨by rfl, rfl⟩) ?_ ?_; rotate_left
       ·simp only [Act.put, a7, a8, a9, i64_w, i32_w]; rfl
       refine pure_ (i := 13) (N := some 27) (v := undef) (a' := ?_) #[true, true, true, true, true, true, true, true, true, true, true, true, true, true, false, false, false, false, false, false, false, false, false] rfl rfl (any_of HT_.out (by kernel_rfl)) (fun _ _ _ h => h) (Or.inr ⟨by rfl, rfl⟩) ?_ ?_; rotate_left
       ·simp only [Act.put, a7, a8, a9, i64_w, i32_w]; rfl
       refine pure_ (i := 14) (N := some 28) (v := undef) (a' := ?_) #[true, true, true, true, true, true, true, true, true, true, true, true, true, true, true, false, false, false, false, false, false, false, false] rfl rfl (any_of HT_.out (by kernel_rfl)) (fun _ _ _ h => h) (Or.inr ⟨by rfl, rfl⟩) ?_ ?_; rotate_left
       ·simp only [Act.put, a7, a8, a9, i64_w, i32_w]; rfl
       refine pure_ (i := 15) (N := some 29) (v := ?_) (a' := ?_) #[true, true, true, true, true, true, true, true, true, true, true, true, true, true, true, true, false, false, false, false, false, false, false] rfl rfl (any_of HT_.out (by kernel_rfl)) (fun _ _ _ h => h) (Or.inl ⟨by rfl, ?_⟩) ?_ ?_; rotate_left
       ·intro w'; go_simp; (with_reducible rfl)
       rotate_left
       ·simp only [Act.put, a7, a8, a9, i64_w, i32_w]; rfl
       refine pure_ (i := 16) (N := some 30) (v := ?_) (a' := ?_) #[true, true, true, true, true, true, true, true, true, true, true, true, true, true, true, true, true, false, false, false, false, false, false] rfl rfl (any_of HT_.out (by kernel_rfl)) (fun _ _ _ h => h) (Or.inl ⟨by rfl, ?_⟩) ?_ ?_; rotate_left
       ·intro w'; go_simp; (with_reducible rfl)
       rotate_left
       ·simp only [Act.put, a7, a8, a9, i64_w, i32_w]; rfl
       refine pure_ (i := 17) (N := some 31) (v := undef) (a' := ?_) #[true, true, true, true, true, true, true, true, true, true, true, true, true, true, true, true, true, true, false, false, false, false, false] rfl rfl (any_of HT_.out (by kernel_rfl)) (fun _ _ _ h => h) (Or.inr ⟨by rfl, rfl⟩) ?_ ?_; rotate_left
       ·simp only [Act.put, a7, a8, a9, i64_w, i32_w]; rfl
       refine pure_ (i := 18) (N := some 32) (v := undef) (a' := ?_) #[true, true, true, true, true, true, true, true, true, true, true, true, true, true, true, true, true, true, true, false, false, false, false] rfl rfl (any_of HT_.out (by kernel_rfl)) (fun _ _ _ h => h) (Or.inr ⟨by rfl, rfl⟩) ?_ ?_; rotate_left
       ·simp only [Act.put, a7, a8, a9, i64_w, i32_w]; rfl
       refine pure_ (i := 19) (N := some 33) (v := undef) (a' := ?_) #[true, true, true, true, true, true, true, true, true, true, true, true, true, true, true, true, true, true, true, true, false, false, false] rfl rfl (any_of HT_.out (by kernel_rfl)) (fun _ _ _ h => h) (Or.inr ⟨by rfl, rfl⟩) ?_ ?_; rotate_left
       ·simp only [Act.put, a7, a8, a9, i64_w, i32_w]; rfl
       refine pure_ (i := 20) (N := some 34) (v := undef) (a' := ?_) #[true, true, true, true, true, true, true, true, true, true, true, true, true, true, true, true, true, true, true, true, true, false, false] rfl rfl (any_of HT_.out (by kernel_rfl)) (fun _ _ _ h => h) (Or.inr ⟨by rfl, rfl⟩) ?_ ?_; rotate_left
       ·simp only [Act.put, a7, a8, a9, i64_w, i32_w]; rfl
       refine pure_ (i := 21) (N := some 35) (v := undef) (a' := ?_) #[true, true, true, true, true, true, true, true, true, true, true, true, true, true, true, true, true, true, true, true, true, true, false] rfl rfl (any_of HT_.out (by kernel_rfl)) (fun _ _ _ h => h) (Or.inr ⟨by rfl, rfl⟩) ?_ ?_; rotate_left
       ·simp only [Act.put, a7, a8, a9, i64_w, i32_w]; rfl
       refine pure_ (i := 22) (N := some 36) (v := ?_) (a' := ?_) #[true, true, true, true, true, true, true, true, true, true, true, true, true, true, true, true, true, true, true, true, true, true, true] rfl rfl (any_of HT_.out (by kernel_rfl)) (fun _ _ _ h => h) (Or.inl ⟨by rfl, ?_⟩) ?_ ?_; rotate_left
       ·intro w'; go_simp; (with_reducible rfl)
       rotate_left
       ·simp only [Act.put, a7, a8, a9, i64_w, i32_w]; rfl
       refine done_ (done_of HT_.out (by kernel_rfl)) ?_; (try go_wp2); go_ret; exact ⟨by first | rfl | (simp [errW_none, errW_some] <;> rfl) | (simp [*, errW_none, errW_some] <;> rfl), by repeat (first | (with_reducible first | exact HB.out | apply ae | apply ab | apply ac | refine ak ?_ GE207.out) | exact HB.out)⟩
      ·rw [if_neg c6] at H; have c6b0 : decide (((rd_T82 l1 x9_1).f0) < 0) = false := decide_eq_false c6; clear c6; by_cases c11 : ((rd_T82 l1 x9_1).f0) ≥ ((rd_T82 l1 x9_1).f1)
       ·rw [if_pos c11] at H; have c11b0 : decide (((rd_T82 l1 x9_1).f1) ≤ ((rd_T82 l1 x9_1).f0)) = true := decide_eq_true c11; clear c11; obtain rfl := Option.some.inj H; have p206 : 0 ≤ (x9_1 : Int) := of_decide_eq_true (by first | (with_reducible assumption) | assumption); have q206 : x9_1 < (l1.length : Int) := of_decide_eq_true (by first | (with_reducible assumption) | assumption); obtain ⟨ad206, e206, hx206_0, hx206_1⟩ := at_T82 HR1.out x9_1 p206 q206
        cases e206
        replace hx206_0 := (HB.out.cell (World.block_lt_of_cell? w _ hx206_0)).trans hx206_0; replace hx206_1 := (HB.out.cell (World.block_lt_of_cell? w _ hx206_1)).trans hx206_1; replace p206 := eq_true p206; replace q206 := eq_true q206; (try go_wp2_with (first | ((with_reducible refine az (N := 6) rfl ?_); (try (refine gate_guard (by rfl) ?_; dsimp only)); refine bb ?hg (N := 6) ?hd (cs := #[.int .i64 0, .int .i64 0]) (t := 82) ?hr ?_; (case hd => rfl); (case hg => rfl); (case hr => first | (go_simp; done) | (go_simp; rfl)); intro gb207 hg w12 hbox hb; have n0_ := aa (af (by repeat (first | (with_reducible first | exact HB.out | apply ae | apply ab | apply ac) | exact HB.out)) hb); have n1_ := aa (hbox); have n2_ := aa ((by rw [hg]; exact (al (by repeat (first | (with_reducible first | exact HB.out | apply ae | apply ab | apply ac) | exact HB.out))) : w.heap.size ≤ gb207)); have n3_ := aa ((by rw [hg]; exact (al (by repeat (first | (with_reducible first | exact HB.out | apply ae | apply ab | apply ac) | exact HB.out))) : w.heap.size ≤ gb207)); clear HB; have HB := n0_; have BK207 := n1_; have GW207 := n2_; have GE207 := n3_; clear n0_ n1_ n2_ n3_; clear hb hbox hg; have hcz13_0 : w12.cell? ⟨gb207, 0, none⟩ = some (.int .i64 0) := (ap BK207.out 0).trans rfl; have hcz13_1 : w12.cell? ⟨gb207, 1, none⟩ = some (.int .i64 0) := (ap BK207.out 1).trans rfl; have hfz13_0 := ao BK207.out 0; have hfz13_1 := ao BK207.out 1))); have n0_ : Aside0 (((w12.setCell ⟨gb207, 0, none⟩ (.int .i64 ((rd_T82 l1 x9_1).f0))).setCell ⟨gb207, 1, none⟩ (.int .i64 ((rd_T82 l1 x9_1).f1))).heap[gb207]? = some (.cells #[.int .i64 ((rd_T82 l1 x9_1).f0), .int .i64 ((rd_T82 l1 x9_1).f1)] 82 (0, 0))) := ⟨by (with_reducible repeat (first | refine an ?_ _ | refine aq ?_ | refine am ?_ _)); refine blk_put (cs := #[.int .i64 ((rd_T82 l1 x9_1).f0), .int .i64 0]) ?_ 1 _ rfl; (with_reducible repeat (first | refine an ?_ _ | refine aq ?_ | refine am ?_ _)); refine blk_put (cs := #[.int .i64 0, .int .i64 0]) ?_ 0 _ rfl; (with_reducible repeat (first | refine an ?_ _ | refine aq ?_ | refine am ?_ _)); exact BK207.out⟩; have n1_ : Aside0 (Below w.heap.size w ((w12.setCell ⟨gb207, 0, none⟩ (.int .i64 ((rd_T82 l1 x9_1).f0))).setCell ⟨gb207, 1, none⟩ (.int .i64 ((rd_T82 l1 x9_1).f1)))) := ⟨by repeat (first | (with_reducible first | exact HB.out | apply ae | apply ab | apply ac | refine ak ?_ GE207.out) | exact HB.out)⟩; (try clear BK207); (try clear HB); generalize ((w12.setCell ⟨gb207, 0, none⟩ (.int .i64 ((rd_T82 l1 x9_1).f0))).setCell ⟨gb207, 1, none⟩ (.int .i64 ((rd_T82 l1 x9_1).f1))) = w14 at n0_ n1_ ⊢; have BK207 := n0_; have HB := n1_; clear n0_ n1_; have n0_ := aa (aq BK207.out); have n1_ := aa (ac HB.out); clear BK207; clear HB; have BK207 := n0_; have HB := n1_; clear n0_ n1_; refine start_ (n := 23) (S := fun w' => w'.cell? ⟨gb207, 0, none⟩ = some (.int .i64 ((rd_T82 l1 x9_1).f0)) ∧ w'.cell? ⟨gb207, 1, none⟩ = some (.int .i64 ((rd_T82 l1 x9_1).f1))) (ds := []) #[false, false, false, false, false, false, false, false, false, false, false, false, false, false, false, false, false, false, false, false, false, false, false] (by kernel_rfl) rfl rfl ⟨(ap BK207.out 0).trans rfl, (ap BK207.out 1).trans rfl⟩ (fun hHeld => ?_); refine with_tabW impl_ValidBorders.tab4 impl_ValidBorders.bits4 (fun HT_ HW_ => ?_); generalize w14.drew = w15 at BK207 HB hHeld ⊢; refine pure_ (i := 0) (N := some 14) (v := ?_) (a' := ?_) #[true, false, false, false, false, false, false, false, false, false, false, false, false, false, false, false, false, false, false, false, false, false, false] rfl rfl (any_of HT_.out (by kernel_rfl)) (fun _ _ _ h => h) (Or.inl ⟨by rfl, ?_⟩) ?_ ?_; rotate_left
        ·intro w'; go_simp; (with_reducible rfl)
        rotate_left
        ·simp only [Act.put, a7, a8, a9, i64_w, i32_w]; rfl
        refine take_ (i := 1) (N := some 15) (v := ?_) (a' := ?_) #[true, true, false, false, false, false, false, false, false, false, false, false, false, false, false, false, false, false, false, false, false, false, false] rfl rfl (take_ofW HT_.out HW_.out (by kernel_rfl)) (fun _ _ _ h => h) (Or.inl ⟨by rfl, ?_⟩) hHeld ?_ ?_; rotate_left
        ·rintro w' ⟨s0, s1⟩; go_simp; (with_reducible rfl)
        rotate_left
        ·simp only [Act.put, a7, a8, a9, i64_w, i32_w]; rfl
        refine pure_ (i := 2) (N := some 16) (v := ?_) (a' := ?_) #[true, true, true, false, false, false, false, false, false, false, false, false, false, false, false, false, false, false, false, false, false, false, false] rfl rfl (any_of HT_.out (by kernel_rfl)) (fun _ _ _ h => h) (Or.inl ⟨by rfl, ?_⟩) ?_ ?_; rotate_left
        ·intro w'; go_simp; (with_reducible rfl)
        rotate_left
        ·simp only [Act.put, a7, a8, a9, i64_w, i32_w]; rfl
        refine pure_ (i := 3) (N := some 17) (v := ?_) (a' := ?_) #[true, true, true, true, false, false, false, false, false, false, false, false, false, false, false, false, false, false, false, false, false, false, false] rfl rfl (any_of HT_.out (by kernel_rfl)) (fun _ _ _ h => h) (Or.inl ⟨by rfl, ?_⟩) ?_ ?_; rotate_left
        ·intro w'; go_simp; (with_reducible rfl)
        rotate_left
        ·simp only [Act.put, a7, a8, a9, i64_w, i32_w]; rfl
        refine pure_ (i := 4) (N := some 18) (v := ?_) (a' := ?_) #[true, true, true, true, true, false, false, false, false, false, false, false, false, false, false, false, false, false, false, false, false, false, false] rfl rfl (any_of HT_.out (by kernel_rfl)) (fun _ _ _ h => h) (Or.inl ⟨by rfl, ?_⟩) ?_ ?_; rotate_left
        ·intro w'; go_simp; (with_reducible rfl)
        rotate_left
        ·simp only [Act.put, a7, a8, a9, i64_w, i32_w]; rfl
        refine pure_ (i := 6) (N := some 20) (v := ?_) (a' := ?_) #[true, true, true, true, true, false, true, false, false, false, false, false, false, false, false, false, false, false, false, false, false, false, false] rfl rfl (any_of HT_.out (by kernel_rfl)) (fun _ _ _ h => h) (Or.inl ⟨by rfl, ?_⟩) ?_ ?_; rotate_left
        ·intro w'; go_simp; (with_reducible rfl)
        rotate_left
        ·simp only [Act.put, a7, a8, a9, i64_w, i32_w]; rfl
        refine take_ (i := 5) (N := some 19) (v := ?_) (a' := ?_) #[true, true, true, true, true, true, true, false, false, false, false, false, false, false, false, false, false, false, false, false, false, false, false] rfl rfl (take_ofW HT_.out HW_.out (by kernel_rfl)) (fun _ _ _ h => h) (Or.inl ⟨by rfl, ?_⟩) hHeld ?_ ?_; rotate_left
        ·rintro w' ⟨s0, s1⟩; go_simp; (with_reducible rfl)
        rotate_left
        ·simp only [Act.put, a7, a8, a9, i64_w, i32_w]; rfl
        refine take_ (i := 7) (N := some 21) (v := ?_) (a' := ?_) #[true, true, true, true, true, true, true, true, false, false, false, false, false, false, false, false, false, false, false, false, false, false, false] rfl rfl (take_ofW HT_.out HW_.out (by kernel_rfl)) (fun _ _ _ h => h) (Or.inl ⟨by rfl, ?_⟩) hHeld ?_ ?_; rotate_left
        ·rintro w' ⟨s0, s1⟩; go_simp; (with_reducible rfl)
        rotate_left
        ·simp only [Act.put, a7, a8, a9, i64_w, i32_w]; rfl
        refine pure_ (i := 8) (N := some 22) (v := ?_) (a' := ?_) #[true, true, true, true, true, true, true, true, true, false, false, false, false, false, false, false, false, false, false, false, false, false, false] rfl rfl (any_of HT_.out (by kernel_rfl)) (fun _ _ _ h => h) (Or.inl ⟨by rfl, ?_⟩) ?_ ?_; rotate_left
        ·intro w'; go_simp; (with_reducible rfl)
        rotate_left
        ·simp only [Act.put, a7, a8, a9, i64_w, i32_w]; rfl
        refine pure_ (i := 9) (N := some 23) (v := ?_) (a' := ?_) #[true, true, true, true, true, true, true, true, true, true, false, false, false, false, false, false, false, false, false, false, false, false, false] rfl rfl (any_of HT_.out (by kernel_rfl)) (fun _ _ _ h => h) (Or.inl ⟨by rfl, ?_⟩) ?_ ?_; rotate_left
        ·intro w'; go_simp; (with_reducible rfl)
        rotate_left
        ·simp only [Act.put, a7, a8, a9, i64_w, i32_w]; rfl
        refine pure_ (i := 10) (N := some 24) (v := ?_) (a' := ?_) #[true, true, true, true, true, true, true, true, true, true, true, false, false, false, false, false, false, false, false, false, false, false, false] rfl rfl (any_of HT_.out (by kernel_rfl)) (fun _ _ _ h => h) (Or.inl ⟨by rfl, ?_⟩) ?_ ?_; rotate_left
        ·intro w'; go_simp; (with_reducible rfl)
        rotate_left
        ·simp only [Act.put, a7, a8, a9, i64_w, i32_w]; rfl
        refine pure_ (i := 11) (N := some 25) (v := undef) (a' := ?_) #[true, true, true, true, true, true, true, true, true, true, true, true, false, false, false, false, false, false, false, false, false, false, false] rfl rfl (any_of HT_.out (by kernel_rfl)) (fun _ _ _ h => h) (Or.inr ⟨by rfl, rfl⟩) ?_ ?_; rotate_left
        ·simp only [Act.put, a7, a8, a9, i64_w, i32_w]; rfl
        refine pure_ (i := 12) (N := some 26) (v := undef) (a' := ?_) #[true, true, true, true, true, true, true, true, true, true, true, true, true, false, false, false, false, false, false, false, false, false, false] rfl rfl (any_of HT_.out (by kernel_rfl)) (fun _ _ _ h => h) (Or.inr ⟨by rfl, rfl⟩) ?_ ?_; rotate_left
        ·simp only [Act.put, a7, a8, a9, i64_w, i32_w]; rfl
        refine pure_ (i := 13) (N := some 27) (v := undef) (a' := ?_) #[true, true, true, true, true, true, true, true, true, true, true, true, true, true, false, false, false, false, false, false, false, false, false] rfl rfl (any_of HT_.out (by kernel_rfl)) (fun _ _ _ h => h) (Or.inr ⟨by rfl, rfl⟩) ?_ ?_; rotate_left
        ·simp only [Act.put, a7, a8, a9, i64_w, i32_w]; rfl
        refine pure_ (i := 14) (N := some 28) (v := undef) (a' := ?_) #[true, true, true, true, true, true, true, true, true, true, true, true, true, true, true, false, false, false, false, false, false, false, false] rfl rfl (any_of HT_.out (by kernel_rfl)) (fun _ _ _ h => h) (Or.inr ⟨by rfl, rfl⟩) ?_ ?_; rotate_left
        ·simp only [Act.put, a7, a8, a9, i64_w, i32_w]; rfl
        refine pure_ (i := 15) (N := some 29) (v := ?_) (a' := ?_) #[true, true, true, true, true, true, true, true, true, true, true, true, true, true, true, true, false, false, false, false, false, false, false] rfl rfl (any_of HT_.out (by kernel_rfl)) (fun _ _ _ h => h) (Or.inl ⟨by rfl, ?_⟩) ?_ ?_; rotate_left
        ·intro w'; go_simp; (with_reducible rfl)
        rotate_left
        ·simp only [Act.put, a7, a8, a9, i64_w, i32_w]; rfl
        refine pure_ (i := 16) (N := some 30) (v := ?_) (a' := ?_) #[true, true, true, true, true, true, true, true, true, true, true, true, true, true, true, true, true, false, false, false, false, false, false] rfl rfl (any_of HT_.out (by kernel_rfl)) (fun _ _ _ h => h) (Or.inl ⟨by rfl, ?_⟩) ?_ ?_; rotate_left
        ·intro w'; go_simp; (with_reducible rfl)
        rotate_left
        ·simp only [Act.put, a7, a8, a9, i64_w, i32_w]; rfl
        refine pure_ (i := 17) (N := some 31) (v := undef) (a' := ?_) #[true, true, true, true, true, true, true, true, true, true, true, true, true, true, true, true, true, true, false, false, false, false, false] rfl rfl (any_of HT_.out (by kernel_rfl)) (fun _ _ _ h => h) (Or.inr ⟨by rfl, rfl⟩) ?_ ?_; rotate_left
        ·simp only [Act.put, a7, a8, a9, i64_w, i32_w]; rfl
        refine pure_ (i := 18) (N := some 32) (v := undef) (a' := ?_) #[true, true, true, true, true, true, true, true, true, true, true, true, true, true, true, true, true, true, true, false, false, false, false] rfl rfl (any_of HT_.out (by kernel_rfl)) (fun _ _ _ h => h) (Or.inr ⟨by rfl, rfl⟩) ?_ ?_; rotate_left
        ·simp only [Act.put, a7, a8, a9, i64_w, i32_w]; rfl
        refine pure_ (i := 19) (N := some 33) (v := undef) (a' := ?_) #[true, true, true, true, true, true, true, true, true, true, true, true, true, true, true, true, true, true, true, true, false, false, false] rfl rfl (any_of HT_.out (by kernel_rfl)) (fun _ _ _ h => h) (Or.inr ⟨by rfl, rfl⟩) ?_ ?_; rotate_left
        ·simp only [Act.put, a7, a8, a9, i64_w, i32_w]; rfl
        refine pure_ (i := 20) (N := some 34) (v := undef) (a' := ?_) #[true, true, true, true, true, true, true, true, true, true, true, true, true, true, true, true, true, true, true, true, true, false, false] rfl rfl (any_of HT_.out (by kernel_rfl)) (fun _ _ _ h => h) (Or.inr ⟨by rfl, rfl⟩) ?_ ?_; rotate_left
        ·simp only [Act.put, a7, a8, a9, i64_w, i32_w]; rfl
        refine pure_ (i := 21) (N := some 35) (v := undef) (a' := ?_) #[true, true, true, true, true, true, true, true, true, true, true, true, true, true, true, true, true, true, true, true, true, true, false] rfl rfl (any_of HT_.out (by kernel_rfl)) (fun _ _ _ h => h) (Or.inr ⟨by rfl, rfl⟩) ?_ ?_; rotate_left
        ·simp only [Act.put, a7, a8, a9, i64_w, i32_w]; rfl
        refine pure_ (i := 22) (N := some 36) (v := ?_) (a' := ?_) #[true, true, true, true, true, true, true, true, true, true, true, true, true, true, true, true, true, true, true, true, true, true, true] rfl rfl (any_of HT_.out (by kernel_rfl)) (fun _ _ _ h => h) (Or.inl ⟨by rfl, ?_⟩) ?_ ?_; rotate_left
        ·intro w'; go_simp; (with_reducible rfl)
        rotate_left
        ·simp only [Act.put, a7, a8, a9, i64_w, i32_w]; rfl
        refine done_ (done_of HT_.out (by kernel_rfl)) ?_; (try go_wp2); go_ret; exact ⟨by first | rfl | (simp [errW_none, errW_some] <;> rfl) | (simp [*, errW_none, errW_some] <;> rfl), by repeat (first | (with_reducible first | exact HB.out | apply ae | apply ab | apply ac | refine ak ?_ GE207.out) | exact HB.out)⟩
       ·rw [if_neg c11] at H; have c11b0 : decide (((rd_T82 l1 x9_1).f1) ≤ ((rd_T82 l1 x9_1).f0)) = false := decide_eq_false c11; clear c11; by_cases c16 : ((rd_T82 l1 x9_1).f1) ≥ a0
        ·rw [if_pos c16] at H; have c16b0 : decide (a0 ≤ ((rd_T82 l1 x9_1).f1)) = true := decide_eq_true c16; clear c16; obtain rfl := Option.some.inj H; have p206 : 0 ≤ (x9_1 : Int) := of_decide_eq_true (by first | (with_reducible assumption) | assumption); have q206 : x9_1 < (l1.length : Int) := of_decide_eq_true (by first | (with_reducible assumption) | assumption); obtain ⟨ad206, e206, hx206_0, hx206_1⟩ := at_T82 HR1.out x9_1 p206 q206
         cases e206
         replace hx206_0 := (HB.out.cell (World.block_lt_of_cell? w _ hx206_0)).trans hx206_0; replace hx206_1 := (HB.out.cell (World.block_lt_of_cell? w _ hx206_1)).trans hx206_1; replace p206 := eq_true p206; replace q206 := eq_true q206; (try go_wp2_with (first | ((with_reducible refine az (N := 6) rfl ?_); (try (refine gate_guard (by rfl) ?_; dsimp only)); refine bb ?hg (N := 6) ?hd (cs := #[.int .i64 0, .int .i64 0]) (t := 82) ?hr ?_; (case hd => rfl); (case hg => rfl); (case hr => first | (go_simp; done) | (go_simp; rfl)); intro gb207 hg w17 hbox hb; have n0_ := aa (af (by repeat (first | (with_reducible first | exact HB.out | apply ae | apply ab | apply ac) | exact HB.out)) hb); have n1_ := aa (hbox); have n2_ := aa ((by rw [hg]; exact (al (by repeat (first | (with_reducible first | exact HB.out | apply ae | apply ab | apply ac) | exact HB.out))) : w.heap.size ≤ gb207)); have n3_ := aa ((by rw [hg]; exact (al (by repeat (first | (with_reducible first | exact HB.out | apply ae | apply ab | apply ac) | exact HB.out))) : w.heap.size ≤ gb207)); clear HB; have HB := n0_; have BK207 := n1_; have GW207 := n2_; have GE207 := n3_; clear n0_ n1_ n2_ n3_; clear hb hbox hg; have hcz18_0 : w17.cell? ⟨gb207, 0, none⟩ = some (.int .i64 0) := (ap BK207.out 0).trans rfl; have hcz18_1 : w17.cell? ⟨gb207, 1, none⟩ = some (.int .i64 0) := (ap BK207.out 1).trans rfl; have hfz18_0 := ao BK207.out 0; have hfz18_1 := ao BK207.out 1))); have n0_ : Aside0 (((w17.setCell ⟨gb207, 0, none⟩ (.int .i64 ((rd_T82 l1 x9_1).f0))).setCell ⟨gb207, 1, none⟩ (.int .i64 ((rd_T82 l1 x9_1).f1))).heap[gb207]? = some (.cells #[.int .i64 ((rd_T82 l1 x9_1).f0), .int .i64 ((rd_T82 l1 x9_1).f1)] 82 (0, 0))) := ⟨by (with_reducible repeat (first | refine an ?_ _ | refine aq ?_ | refine am ?_ _)); refine blk_put (cs := #[.int .i64 ((rd_T82 l1 x9_1).f0), .int .i64 0]) ?_ 1 _ rfl; (with_reducible repeat (first | refine an ?_ _ | refine aq ?_ | refine am ?_ _)); refine blk_put (cs := #[.int .i64 0, .int .i64 0]) ?_ 0 _ rfl; (with_reducible repeat (first | refine an ?_ _ | refine aq ?_ | refine am ?_ _)); exact BK207.out⟩; have n1_ : Aside0 (Below w.heap.size w ((w17.setCell ⟨gb207, 0, none⟩ (.int .i64 ((rd_T82 l1 x9_1).f0))).setCell ⟨gb207, 1, none⟩ (.int .i64 ((rd_T82 l1 x9_1).f1)))) := ⟨by repeat (first | (with_reducible first | exact HB.out | apply ae | apply ab | apply ac | refine ak ?_ GE207.out) | exact HB.out)⟩; (try clear BK207); (try clear HB); generalize ((w17.setCell ⟨gb207, 0, none⟩ (.int .i64 ((rd_T82 l1 x9_1).f0))).setCell ⟨gb207, 1, none⟩ (.int .i64 ((rd_T82 l1 x9_1).f1))) = w19 at n0_ n1_ ⊢; have BK207 := n0_; have HB := n1_; clear n0_ n1_; have n0_ := aa (aq BK207.out); have n1_ := aa (ac HB.out); clear BK207; clear HB; have BK207 := n0_; have HB := n1_; clear n0_ n1_; refine start_ (n := 23) (S := fun w' => w'.cell? ⟨gb207, 0, none⟩ = some (.int .i64 ((rd_T82 l1 x9_1).f0)) ∧ w'.cell? ⟨gb207, 1, none⟩ = some (.int .i64 ((rd_T82 l1 x9_1).f1))) (ds := []) #[false, false, false, false, false, false, false, false, false, false, false, false, false, false, false, false, false, false, false, false, false, false, false] (by kernel_rfl) rfl rfl ⟨(ap BK207.out 0).trans rfl, (ap BK207.out 1).trans rfl⟩ (fun hHeld => ?_); refine with_tabW impl_ValidBorders.tab4 impl_ValidBorders.bits4 (fun HT_ HW_ => ?_); generalize w19.drew = w20 at BK207 HB hHeld ⊢; refine pure_ (i := 0) (N := some 14) (v := ?_) (a' := ?_) #[true, false, false, false, false, false, false, false, false, false, false, false, false, false, false, false, false, false, false, false, false, false, false] rfl rfl (any_of HT_.out (by kernel_rfl)) (fun _ _ _ h => h) (Or.inl ⟨by rfl, ?_⟩) ?_ ?_; rotate_left
         ·intro w'; go_simp; (with_reducible rfl)
         rotate_left
         ·simp only [Act.put, a7, a8, a9, i64_w, i32_w]; rfl
         refine take_ (i := 1) (N := some 15) (v := ?_) (a' := ?_) #[true, true, false, false, false, false, false, false, false, false, false, false, false, false, false, false, false, false, false, false, false, false, false] rfl rfl (take_ofW HT_.out HW_.out (by kernel_rfl)) (fun _ _ _ h => h) (Or.inl ⟨by rfl, ?_⟩) hHeld ?_ ?_; rotate_left
         ·rintro w' ⟨s0, s1⟩; go_simp; (with_reducible rfl)
         rotate_left
         ·simp only [Act.put, a7, a8, a9, i64_w, i32_w]; rfl
         refine pure_ (i := 2) (N := some 16) (v := ?_) (a' := ?_) #[true, true, true, false, false, false, false, false, false, false, false, false, false, false, false, false, false, false, false, false, false, false, false] rfl rfl (any_of HT_.out (by kernel_rfl)) (fun _ _ _ h => h) (Or.inl ⟨by rfl, ?_⟩) ?_ ?_; rotate_left
         ·intro w'; go_simp; (with_reducible rfl)
         rotate_left
         ·simp only [Act.put, a7, a8, a9, i64_w, i32_w]; rfl
         refine pure_ (i := 3) (N := some 17) (v := ?_) (a' := ?_) #[true, true, true, true, false, false, false, false, false, false, false, false, false, false, false, false, false, false, false, false, false, false, false] rfl rfl (any_of HT_.out (by kernel_rfl)) (fun _ _ _ h => h) (Or.inl ⟨by rfl, ?_⟩) ?_ ?_; rotate_left
         ·intro w'; go_simp; (with_reducible rfl)
         rotate_left
         ·simp only [Act.put, a7, a8, a9, i64_w, i32_w]; rfl
         refine pure_ (i := 4) (N := some 18) (v := ?_) (a' := ?_) #[true, true, true, true, true, false, false, false, false, false, false, false, false, false, false, false, false, false, false, false, false, false, false] rfl rfl (any_of HT_.out (by kernel_rfl)) (fun _ _ _ h => h) (Or.inl ⟨by rfl, ?_⟩) ?_ ?_; rotate_left
         ·intro w'; go_simp; (with_reducible rfl)
         rotate_left
         ·simp only [Act.put, a7, a8, a9, i64_w, i32_w]; rfl
         refine pure_ (i := 6) (N := some 20) (v := ?_) (a' := ?_) #[true, true, true, true, true, false, true, false, false, false, false, false, false, false, false, false, false, false, false, false, false, false, false] rfl rfl (any_of HT_.out (by kernel_rfl)) (fun _ _ _ h => h) (Or.inl ⟨by rfl, ?_⟩) ?_ ?_; rotate_left
         ·intro w'; go_simp; (with_reducible rfl)
         rotate_left
         ·simp only [Act.put, a7, a8, a9, i64_w, i32_w]; rfl
         refine take_ (i := 5) (N := some 19) (v := ?_) (a' := ?_) #[true, true, true, true, true, true, true, false, false, false, false, false, false, false, false, false, false, false, false, false, false, false, false] rfl rfl (take_ofW HT_.out HW_.out (by kernel_rfl)) (fun _ _ _ h => h) (Or.inl ⟨by rfl, ?_⟩) hHeld ?_ ?_; rotate_left
         ·rintro w' ⟨s0, s1⟩; go_simp; (with_reducible rfl)
         rotate_left
         ·simp only [Act.put, a7, a8, a9, i64_w, i32_w]; rfl
         refine take_ (i := 7) (N := some 21) (v := ?_) (a' := ?_) #[true, true, true, true, true, true, true, true, false, false, false, false, false, false, false, false, false, false, false, false, false, false, false] rfl rfl (take_ofW HT_.out HW_.out (by kernel_rfl)) (fun _ _ _ h => h) (Or.inl ⟨by rfl, ?_⟩) hHeld ?_ ?_; rotate_left
         ·rintro w' ⟨s0, s1⟩; go_simp; (with_reducible rfl)
         rotate_left
         ·simp only [Act.put, a7, a8, a9, i64_w, i32_w]; rfl
         refine pure_ (i := 8) (N := some 22) (v := ?_) (a' := ?_) #[true, true, true, true, true, true, true, true, true, false, false, false, false, false, false, false, false, false, false, false, false, false, false] rfl rfl (any_of HT_.out (by kernel_rfl)) (fun _ _ _ h => h) (Or.inl ⟨by rfl, ?_⟩) ?_ ?_; rotate_left
         ·intro w'; go_simp; (with_reducible rfl)
         rotate_left
         ·simp only [Act.put, a7, a8, a9, i64_w, i32_w]; rfl
         refine pure_ (i := 9) (N := some 23) (v := ?_) (a' := ?_) #[true, true, true, true, true, true, true, true, true, true, false, false, false, false, false, false, false, false, false, false, false, false, false] rfl rfl (any_of HT_.out (by kernel_rfl)) (fun _ _ _ h => h) (Or.inl ⟨by rfl, ?_⟩) ?_ ?_; rotate_left
         ·intro w'; go_simp; (with_reducible rfl)
         rotate_left
         ·simp only [Act.put, a7, a8, a9, i64_w, i32_w]; rfl
         refine pure_ (i := 10) (N := some 24) (v := ?_) (a' := ?_) #[true, true, true, true, true, true, true, true, true, true, true, false, false, false, false, false, false, false, false, false, false, false, false] rfl rfl (any_of HT_.out (by kernel_rfl)) (fun _ _ _ h => h) (Or.inl ⟨by rfl, ?_⟩) ?_ ?_; rotate_left
         ·intro w'; go_simp; (with_reducible rfl)
         rotate_left
         ·simp only [Act.put, a7, a8, a9, i64_w, i32_w]; rfl
         refine pure_ (i := 11) (N := some 25) (v := ?_) (a' := ?_) #[true, true, true, true, true, true, true, true, true, true, true, true, false, false, false, false, false, false, false, false, false, false, false] rfl rfl (any_of HT_.out (by kernel_rfl)) (fun _ _ _ h => h) (Or.inl ⟨by rfl, ?_⟩) ?_ ?_; rotate_left
         ·intro w'; go_simp; (with_reducible rfl)
         rotate_left
         ·simp only [Act.put, a7, a8, a9, i64_w, i32_w]; rfl
         refine pure_ (i := 13) (N := some 27) (v := ?_) (a' := ?_) #[true, true, true, true, true, true, true, true, true, true, true, true, false, true, false, false, false, false, false, false, false, false, false] rfl rfl (any_of HT_.out (by kernel_rfl)) (fun _ _ _ h => h) (Or.inl ⟨by rfl, ?_⟩) ?_ ?_; rotate_left
         ·intro w'; go_simp; (with_reducible rfl)
         rotate_left
         ·simp only [Act.put, a7, a8, a9, i64_w, i32_w]; rfl
         refine take_ (i := 12) (N := some 26) (v := ?_) (a' := ?_) #[true, true, true, true, true, true, true, true, true, true, true, true, true, true, false, false, false, false, false, false, false, false, false] rfl rfl (take_ofW HT_.out HW_.out (by kernel_rfl)) (fun _ _ _ h => h) (Or.inl ⟨by rfl, ?_⟩) hHeld ?_ ?_; rotate_left
         ·rintro w' ⟨s0, s1⟩; go_simp; (with_reducible rfl)
         rotate_left
         ·simp only [Act.put, a7, a8, a9, i64_w, i32_w]; rfl
         refine pure_ (i := 14) (N := some 28) (v := ?_) (a' := ?_) #[true, true, true, true, true, true, true, true, true, true, true, true, true, true, true, false, false, false, false, false, false, false, false] rfl rfl (any_of HT_.out (by kernel_rfl)) (fun _ _ _ h => h) (Or.inl ⟨by rfl, ?_⟩) ?_ ?_; rotate_left
         ·intro w'; go_simp; (with_reducible rfl)
         rotate_left
         ·simp only [Act.put, a7, a8, a9, i64_w, i32_w]; rfl
         refine pure_ (i := 15) (N := some 29) (v := ?_) (a' := ?_) #[true, true, true, true, true, true, true, true, true, true, true, true, true, true, true, true, false, false, false, false, false, false, false] rfl rfl (any_of HT_.out (by kernel_rfl)) (fun _ _ _ h => h) (Or.inl ⟨by rfl, ?_⟩) ?_ ?_; rotate_left
         ·intro w'; go_simp; (with_reducible rfl)
         rotate_left
         ·simp only [Act.put, a7, a8, a9, i64_w, i32_w]; rfl
         refine pure_ (i := 16) (N := some 30) (v := ?_) (a' := ?_) #[true, true, true, true, true, true, true, true, true, true, true, true, true, true, true, true, true, false, false, false, false, false, false] rfl rfl (any_of HT_.out (by kernel_rfl)) (fun _ _ _ h => h) (Or.inl ⟨by rfl, ?_⟩) ?_ ?_; rotate_left
         ·intro w'; go_simp; (with_reducible rfl)
         rotate_left
         ·simp only [Act.put, a7, a8, a9, i64_w, i32_w]; rfl
         refine pure_ (i := 17) (N := some 31) (v := undef) (a' := ?_) #[true, true, true, true, true, true, true, true, true, true, true, true, true, true, true, true, true, true, false, false, false, false, false] rfl rfl (any_of HT_.out (by kernel_rfl)) (fun _ _ _ h => h) (Or.inr ⟨by rfl, rfl⟩) ?_ ?_; rotate_left
         ·simp only [Act.put, a7, a8, a9, i64_w, i32_w]; rfl
         refine pure_ (i := 18) (N := some 32) (v := undef) (a' := ?_) #[true, true, true, true, true, true, true, true, true, true, true, true, true, true, true, true, true, true, true, false, false, false, false] rfl rfl (any_of HT_.out (by kernel_rfl)) (fun _ _ _ h => h) (Or.inr ⟨by rfl, rfl⟩) ?_ ?_; rotate_left
         ·simp only [Act.put, a7, a8, a9, i64_w, i32_w]; rfl
         refine pure_ (i := 19) (N := some 33) (v := undef) (a' := ?_) #[true, true, true, true, true, true, true, true, true, true, true, true, true, true, true, true, true, true, true, true, false, false, false] rfl rfl (any_of HT_.out (by kernel_rfl)) (fun _ _ _ h => h) (Or.inr ⟨by rfl, rfl⟩) ?_ ?_; rotate_left
         ·simp only [Act.put, a7, a8, a9, i64_w, i32_w]; rfl
         refine pure_ (i := 20) (N := some 34) (v := undef) (a' := ?_) #[true, true, true, true, true, true, true, true, true, true, true, true, true, true, true, true, true, true, true, true, true, false, false] rfl rfl (any_of HT_.out (by kernel_rfl)) (fun _ _ _ h => h) (Or.inr ⟨by rfl, rfl⟩) ?_ ?_; rotate_left
         ·simp only [Act.put, a7, a8, a9, i64_w, i32_w]; rfl
         refine pure_ (i := 21) (N := some 35) (v := undef) (a' := ?_) #[true, true, true, true, true, true, true, true, true, true, true, true, true, true, true, true, true, true, true, true, true, true, false] rfl rfl (any_of HT_.out (by kernel_rfl)) (fun _ _ _ h => h) (Or.inr ⟨by rfl, rfl⟩) ?_ ?_; rotate_left
         ·simp only [Act.put, a7, a8, a9, i64_w, i32_w]; rfl
         refine pure_ (i := 22) (N := some 36) (v := ?_) (a' := ?_) #[true, true, true, true, true, true, true, true, true, true, true, true, true, true, true, true, true, true, true, true, true, true, true] rfl rfl (any_of HT_.out (by kernel_rfl)) (fun _ _ _ h => h) (Or.inl ⟨by rfl, ?_⟩) ?_ ?_; rotate_left
         ·intro w'; go_simp; (with_reducible rfl)
         rotate_left
         ·simp only [Act.put, a7, a8, a9, i64_w, i32_w]; rfl
         refine done_ (done_of HT_.out (by kernel_rfl)) ?_; (try go_wp2); go_ret; exact ⟨by first | rfl | (simp [errW_none, errW_some] <;> rfl) | (simp [*, errW_none, errW_some] <;> rfl), by repeat (first | (with_reducible first | exact HB.out | apply ae | apply ab | apply ac | refine ak ?_ GE207.out) | exact HB.out)⟩
        ·rw [if_neg c16] at H; have c16b0 : decide (a0 ≤ ((rd_T82 l1 x9_1).f1)) = false := decide_eq_false c16; clear c16; have c21b0 := eq_true (of_decide_eq_true (by first | (with_reducible assumption) | assumption) : 0 ≤ x9_1); by_cases c22 : x9_1 ≤ (l1.length : Int)
         ·rw [if_pos c22] at H; have c22b0 := eq_true c22; have c22b1 : decide (x9_1 ≤ (l1.length : Int)) = true := decide_eq_true c22; clear c22; obtain ⟨y208, hy208⟩ : ∃ y_ : List (S82), y_ = (l1.take (x9_1 : Int).toNat) := ⟨_, rfl⟩; (replace H : ((impl_Border_70.f k1 y208 ((rd_T82 l1 x9_1).f0) ((rd_T82 l1 x9_1).f1)).bind fun t212 => (if t212 = true then (some false) else (impl_ValidBorders.l0 k1 a0 l1 l1 (l1.length : Int) (wrap64 (x9_1 + 1))))) = some r := by first | (rw [hy208]; with_reducible exact H) | (have H2_ := (b6 _ _).symm.trans H; rw [hy208]; with_reducible exact H2_) | (have H2_ := (b6 _ _).symm.trans H; with_reducible exact H2_) | with_reducible exact H | (rw [hy208]; exact H) | exact H); have Ny208 := aa hy208; clear hy208; replace H := bf.mp H; obtain ⟨t212, A230, H⟩ := H; (try dsimp only at H); have A23 := aa A230; clear A230; by_cases c24 : t212 = true
          ·subst c24; (have H1 : (some false) = some r := by rw [if_pos rfl] at H; exact H); clear H; have H := H1; clear H1; obtain rfl := Option.some.inj H; have p206 : 0 ≤ (x9_1 : Int) := of_decide_eq_true (by first | (with_reducible assumption) | assumption); have q206 : x9_1 < (l1.length : Int) := of_decide_eq_true (by first | (with_reducible assumption) | assumption); obtain ⟨ad206, e206, hx206_0, hx206_1⟩ := at_T82 HR1.out x9_1 p206 q206
           cases e206
           replace hx206_0 := (HB.out.cell (World.block_lt_of_cell? w _ hx206_0)).trans hx206_0; replace hx206_1 := (HB.out.cell (World.block_lt_of_cell? w _ hx206_1)).trans hx206_1; replace p206 := eq_true p206; replace q206 := eq_true q206; (try go_wp2_with (first | ((with_reducible refine az (N := 6) rfl ?_); (try (refine gate_guard (by rfl) ?_; dsimp only)); refine bb ?hg (N := 6) ?hd (cs := #[.int .i64 0, .int .i64 0]) (t := 82) ?hr ?_; (case hd => rfl); (case hg => rfl); (case hr => first | (go_simp; done) | (go_simp; rfl)); intro gb207 hg w25 hbox hb; have n0_ := aa (af (by repeat (first | (with_reducible first | exact HB.out | apply ae | apply ab | apply ac) | exact HB.out)) hb); have n1_ := aa (hbox); have n2_ := aa ((by rw [hg]; exact (al (by repeat (first | (with_reducible first | exact HB.out | apply ae | apply ab | apply ac) | exact HB.out))) : w.heap.size ≤ gb207)); have n3_ := aa ((by rw [hg]; exact (al (by repeat (first | (with_reducible first | exact HB.out | apply ae | apply ab | apply ac) | exact HB.out))) : w.heap.size ≤ gb207)); clear HB; have HB := n0_; have BK207 := n1_; have GW207 := n2_; have GE207 := n3_; clear n0_ n1_ n2_ n3_; clear hb hbox hg; have hcz26_0 : w25.cell? ⟨gb207, 0, none⟩ = some (.int .i64 0) := (ap BK207.out 0).trans rfl; have hcz26_1 : w25.cell? ⟨gb207, 1, none⟩ = some (.int .i64 0) := (ap BK207.out 1).trans rfl; have hfz26_0 := ao BK207.out 0; have hfz26_1 := ao BK207.out 1))); have n0_ : Aside0 (((w25.setCell ⟨gb207, 0, none⟩ (.int .i64 ((rd_T82 l1 x9_1).f0))).setCell ⟨gb207, 1, none⟩ (.int .i64 ((rd_T82 l1 x9_1).f1))).heap[gb207]? = some (.cells #[.int .i64 ((rd_T82 l1 x9_1).f0), .int .i64 ((rd_T82 l1 x9_1).f1)] 82 (0, 0))) := ⟨by (with_reducible repeat (first | refine an ?_ _ | refine aq ?_ | refine am ?_ _)); refine blk_put (cs := #[.int .i64 ((rd_T82 l1 x9_1).f0), .int .i64 0]) ?_ 1 _ rfl; (with_reducible repeat (first | refine an ?_ _ | refine aq ?_ | refine am ?_ _)); refine blk_put (cs := #[.int .i64 0, .int .i64 0]) ?_ 0 _ rfl; (with_reducible repeat (first | refine an ?_ _ | refine aq ?_ | refine am ?_ _)); exact BK207.out⟩; have n1_ : Aside0 (Below w.heap.size w ((w25.setCell ⟨gb207, 0, none⟩ (.int .i64 ((rd_T82 l1 x9_1).f0))).setCell ⟨gb207, 1, none⟩ (.int .i64 ((rd_T82 l1 x9_1).f1)))) := ⟨by repeat (first | (with_reducible first | exact HB.out | apply ae | apply ab | apply ac | refine ak ?_ GE207.out) | exact HB.out)⟩; (try clear BK207); (try clear HB); generalize ((w25.setCell ⟨gb207, 0, none⟩ (.int .i64 ((rd_T82 l1 x9_1).f0))).setCell ⟨gb207, 1, none⟩ (.int .i64 ((rd_T82 l1 x9_1).f1))) = w27 at n0_ n1_ ⊢; have BK207 := n0_; have HB := n1_; clear n0_ n1_; have n0_ := aa (aq BK207.out); have n1_ := aa (ac HB.out); clear BK207; clear HB; have BK207 := n0_; have HB := n1_; clear n0_ n1_; have q29 : (x9_1 : Int) ≤ ((l1.length : Int) : Int) := of_decide_eq_true (by first | (with_reducible assumption) | assumption); obtain ⟨i029, hi029, _, hsz29, _⟩ := info_parts info82; have hroom29 : l1.length ≤ c1 := HC1.out; have hC29 : Kd.C k82 _ (some ad206) l1.length l1 := HR1.out; have hcut29 := cut_to (P := Tryz.prog) 31 82 .i64 Tryz.underlying31 hi029 (some ad206) l1.length c1 x9_1 (of_decide_eq_true (by first | (with_reducible assumption) | assumption)) q29 hroom29; have hr29 := Kd.C_take (m := (x9_1 : Int).toNat) hC29 (by omega); have hy29 : y208.length = (x9_1 : Int).toNat := (by rw [Ny208.out, b2]; omega); rw [← Ny208.out] at hr29; rw [← hy29] at hcut29; have HR211 := aa hr29; have HC211 := aa (show y208.length ≤ c1 from by omega); clear hr29 hC29 hroom29 hi029 hsz29; have KY29 := aa hy29; clear hy29; replace q29 := eq_true q29; refine start_ (n := 23) (S := fun w' => w'.cell? ⟨gb207, 0, none⟩ = some (.int .i64 ((rd_T82 l1 x9_1).f0)) ∧ w'.cell? ⟨gb207, 1, none⟩ = some (.int .i64 ((rd_T82 l1 x9_1).f1))) (ds := []) #[false, false, false, false, false, false, false, false, false, false, false, false, false, false, false, false, false, false, false, false, false, false, false] (by kernel_rfl) rfl rfl ⟨(ap BK207.out 0).trans rfl, (ap BK207.out 1).trans rfl⟩ (fun hHeld => ?_); refine with_tabW impl_ValidBorders.tab4 impl_ValidBorders.bits4 (fun HT_ HW_ => ?_); generalize w27.drew = w28 at BK207 HB HR211 hHeld ⊢; refine pure_ (i := 0) (N := some 14) (v := ?_) (a' := ?_) #[true, false, false, false, false, false, false, false, false, false, false, false, false, false, false, false, false, false, false, false, false, false, false] rfl rfl (any_of HT_.out (by kernel_rfl)) (fun _ _ _ h => h) (Or.inl ⟨by rfl, ?_⟩) ?_ ?_; rotate_left
           ·intro w'; go_simp; (with_reducible rfl)
           rotate_left
           ·simp only [Act.put, a7, a8, a9, i64_w, i32_w]; rfl
           refine take_ (i := 1) (N := some 15) (v := ?_) (a' := ?_) #[true, true, false, false, false, false, false, false, false, false, false, false, false, false, false, false, false, false, false, false, false, false, false] rfl rfl (take_ofW HT_.out HW_.out (by kernel_rfl)) (fun _ _ _ h => h) (Or.inl ⟨by rfl, ?_⟩) hHeld ?_ ?_; rotate_left
           ·rintro w' ⟨s0, s1⟩; go_simp; (with_reducible rfl)
           rotate_left
           ·simp only [Act.put, a7, a8, a9, i64_w, i32_w]; rfl
           refine pure_ (i := 2) (N := some 16) (v := ?_) (a' := ?_) #[true, true, true, false, false, false, false, false, false, false, false, false, false, false, false, false, false, false, false, false, false, false, false] rfl rfl (any_of HT_.out (by kernel_rfl)) (fun _ _ _ h => h) (Or.inl ⟨by rfl, ?_⟩) ?_ ?_; rotate_left
           ·intro w'; go_simp; (with_reducible rfl)
           rotate_left
           ·simp only [Act.put, a7, a8, a9, i64_w, i32_w]; rfl
           refine pure_ (i := 3) (N := some 17) (v := ?_) (a' := ?_) #[true, true, true, true, false, false, false, false, false, false, false, false, false, false, false, false, false, false, false, false, false, false, false] rfl rfl (any_of HT_.out (by kernel_rfl)) (fun _ _ _ h => h) (Or.inl ⟨by rfl, ?_⟩) ?_ ?_; rotate_left
           ·intro w'; go_simp; (with_reducible rfl)
           rotate_left
           ·simp only [Act.put, a7, a8, a9, i64_w, i32_w]; rfl
           refine pure_ (i := 4) (N := some 18) (v := ?_) (a' := ?_) #[true, true, true, true, true, false, false, false, false, false, false, false, false, false, false, false, false, false, false, false, false, false, false] rfl rfl (any_of HT_.out (by kernel_rfl)) (fun _ _ _ h => h) (Or.inl ⟨by rfl, ?_⟩) ?_ ?_; rotate_left
           ·intro w'; go_simp; (with_reducible rfl)
           rotate_left
           ·simp only [Act.put, a7, a8, a9, i64_w, i32_w]; rfl
           refine pure_ (i := 6) (N := some 20) (v := ?_) (a' := ?_) #[true, true, true, true, true, false, true, false, false, false, false, false, false, false, false, false, false, false, false, false, false, false, false] rfl rfl (any_of HT_.out (by kernel_rfl)) (fun _ _ _ h => h) (Or.inl ⟨by rfl, ?_⟩) ?_ ?_; rotate_left
           ·intro w'; go_simp; (with_reducible rfl)
           rotate_left
           ·simp only [Act.put, a7, a8, a9, i64_w, i32_w]; rfl
           refine take_ (i := 5) (N := some 19) (v := ?_) (a' := ?_) #[true, true, true, true, true, true, true, false, false, false, false, false, false, false, false, false, false, false, false, false, false, false, false] rfl rfl (take_ofW HT_.out HW_.out (by kernel_rfl)) (fun _ _ _ h => h) (Or.inl ⟨by rfl, ?_⟩) hHeld ?_ ?_; rotate_left
           ·rintro w' ⟨s0, s1⟩; go_simp; (with_reducible rfl)
           rotate_left
           ·simp only [Act.put, a7, a8, a9, i64_w, i32_w]; rfl
           refine take_ (i := 7) (N := some 21) (v := ?_) (a' := ?_) #[true, true, true, true, true, true, true, true, false, false, false, false, false, false, false, false, false, false, false, false, false, false, false] rfl rfl (take_ofW HT_.out HW_.out (by kernel_rfl)) (fun _ _ _ h => h) (Or.inl ⟨by rfl, ?_⟩) hHeld ?_ ?_; rotate_left
           ·rintro w' ⟨s0, s1⟩; go_simp; (with_reducible rfl)
           rotate_left
           ·simp only [Act.put, a7, a8, a9, i64_w, i32_w]; rfl
           refine pure_ (i := 8) (N := some 22) (v := ?_) (a' := ?_) #[true, true, true, true, true, true, true, true, true, false, false, false, false, false, false, false, false, false, false, false, false, false, false] rfl rfl (any_of HT_.out (by kernel_rfl)) (fun _ _ _ h => h) (Or.inl ⟨by rfl, ?_⟩) ?_ ?_; rotate_left
           ·intro w'; go_simp; (with_reducible rfl)
           rotate_left
           ·simp only [Act.put, a7, a8, a9, i64_w, i32_w]; rfl
           refine pure_ (i := 9) (N := some 23) (v := ?_) (a' := ?_) #[true, true, true, true, true, true, true, true, true, true, false, false, false, false, false, false, false, false, false, false, false, false, false] rfl rfl (any_of HT_.out (by kernel_rfl)) (fun _ _ _ h => h) (Or.inl ⟨by rfl, ?_⟩) ?_ ?_; rotate_left
           ·intro w'; go_simp; (with_reducible rfl)
           rotate_left
           ·simp only [Act.put, a7, a8, a9, i64_w, i32_w]; rfl
           refine pure_ (i := 10) (N := some 24) (v := ?_) (a' := ?_) #[true, true, true, true, true, true, true, true, true, true, true, false, false, false, false, false, false, false, false, false, false, false, false] rfl rfl (any_of HT_.out (by kernel_rfl)) (fun _ _ _ h => h) (Or.inl ⟨by rfl, ?_⟩) ?_ ?_; rotate_left
           ·intro w'; go_simp; (with_reducible rfl)
           rotate_left
           ·simp only [Act.put, a7, a8, a9, i64_w, i32_w]; rfl
           refine pure_ (i := 11) (N := some 25) (v := ?_) (a' := ?_) #[true, true, true, true, true, true, true, true, true, true, true, true, false, false, false, false, false, false, false, false, false, false, false] rfl rfl (any_of HT_.out (by kernel_rfl)) (fun _ _ _ h => h) (Or.inl ⟨by rfl, ?_⟩) ?_ ?_; rotate_left
           ·intro w'; go_simp; (with_reducible rfl)
           rotate_left
           ·simp only [Act.put, a7, a8, a9, i64_w, i32_w]; rfl
           refine pure_ (i := 13) (N := some 27) (v := ?_) (a' := ?_) #[true, true, true, true, true, true, true, true, true, true, true, true, false, true, false, false, false, false, false, false, false, false, false] rfl rfl (any_of HT_.out (by kernel_rfl)) (fun _ _ _ h => h) (Or.inl ⟨by rfl, ?_⟩) ?_ ?_; rotate_left
           ·intro w'; go_simp; (with_reducible rfl)
           rotate_left
           ·simp only [Act.put, a7, a8, a9, i64_w, i32_w]; rfl
           refine take_ (i := 12) (N := some 26) (v := ?_) (a' := ?_) #[true, true, true, true, true, true, true, true, true, true, true, true, true, true, false, false, false, false, false, false, false, false, false] rfl rfl (take_ofW HT_.out HW_.out (by kernel_rfl)) (fun _ _ _ h => h) (Or.inl ⟨by rfl, ?_⟩) hHeld ?_ ?_; rotate_left
           ·rintro w' ⟨s0, s1⟩; go_simp; (with_reducible rfl)
           rotate_left
           ·simp only [Act.put, a7, a8, a9, i64_w, i32_w]; rfl
           refine pure_ (i := 14) (N := some 28) (v := ?_) (a' := ?_) #[true, true, true, true, true, true, true, true, true, true, true, true, true, true, true, false, false, false, false, false, false, false, false] rfl rfl (any_of HT_.out (by kernel_rfl)) (fun _ _ _ h => h) (Or.inl ⟨by rfl, ?_⟩) ?_ ?_; rotate_left
           ·intro w'; go_simp; (with_reducible rfl)
           rotate_left
           ·simp only [Act.put, a7, a8, a9, i64_w, i32_w]; rfl
           refine pure_ (i := 15) (N := some 29) (v := ?_) (a' := ?_) #[true, true, true, true, true, true, true, true, true, true, true, true, true, true, true, true, false, false, false, false, false, false, false] rfl rfl (any_of HT_.out (by kernel_rfl)) (fun _ _ _ h => h) (Or.inl ⟨by rfl, ?_⟩) ?_ ?_; rotate_left
           ·intro w'; go_simp; (with_reducible rfl)
           rotate_left
           ·simp only [Act.put, a7, a8, a9, i64_w, i32_w]; rfl
           refine pure_ (i := 16) (N := some 30) (v := ?_) (a' := ?_) #[true, true, true, true, true, true, true, true, true, true, true, true, true, true, true, true, true, false, false, false, false, false, false] rfl rfl (any_of HT_.out (by kernel_rfl)) (fun _ _ _ h => h) (Or.inl ⟨by rfl, ?_⟩) ?_ ?_; rotate_left
           ·intro w'; go_simp; (with_reducible rfl)
           rotate_left
           ·simp only [Act.put, a7, a8, a9, i64_w, i32_w]; rfl
           refine pure_ (i := 17) (N := some 31) (v := ?_) (a' := ?_) #[true, true, true, true, true, true, true, true, true, true, true, true, true, true, true, true, true, true, false, false, false, false, false] rfl rfl (any_of HT_.out (by kernel_rfl)) (fun _ _ _ h => h) (Or.inl ⟨by rfl, ?_⟩) ?_ ?_; rotate_left
           ·intro w'; go_simp; (with_reducible rfl)
           rotate_left
           ·simp only [Act.put, a7, a8, a9, i64_w, i32_w]; rfl
           refine pure_ (i := 18) (N := some 32) (v := ?_) (a' := ?_) #[true, true, true, true, true, true, true, true, true, true, true, true, true, true, true, true, true, true, true, false, false, false, false] rfl rfl (any_of HT_.out (by kernel_rfl)) (fun _ _ _ h => h) (Or.inl ⟨by rfl, ?_⟩) ?_ ?_; rotate_left
           ·intro w'; go_simp; (with_reducible rfl)
           rotate_left
           ·simp only [Act.put, a7, a8, a9, i64_w, i32_w]; rfl
           refine pure_ (i := 19) (N := some 33) (v := ?_) (a' := ?_) #[true, true, true, true, true, true, true, true, true, true, true, true, true, true, true, true, true, true, true, true, false, false, false] rfl rfl (any_of HT_.out (by kernel_rfl)) (fun _ _ _ h => h) (Or.inl ⟨by rfl, ?_⟩) ?_ ?_; rotate_left
           ·intro w'; go_simp; (with_reducible rfl)
           rotate_left
           ·simp only [Act.put, a7, a8, a9, i64_w, i32_w]; rfl
           refine take_ (i := 20) (N := some 34) (v := ?_) (a' := ?_) #[true, true, true, true, true, true, true, true, true, true, true, true, true, true, true, true, true, true, true, true, true, false, false] rfl rfl (take_ofW HT_.out HW_.out (by kernel_rfl)) (fun _ _ _ h => h) (Or.inl ⟨by rfl, ?_⟩) hHeld ?_ ?_; rotate_left
           ·rintro w' ⟨s0, s1⟩; go_simp; (with_reducible rfl)
           rotate_left
           ·simp only [Act.put, a7, a8, a9, i64_w, i32_w]; rfl
           refine one_ (i := 21) (N := some 35) #[true, true, true, true, true, true, true, true, true, true, true, true, true, true, true, true, true, true, true, true, true, true, false] rfl rfl (one_of HT_.out (by kernel_rfl)) (by decide) (fun K hK => ?_); refine goes_ Tryz.func70 (by kernel_rfl) rfl #[.slice (some ad206) y208.length c1, .agg #[.int .i64 ((rd_T82 l1 x9_1).f0), .int .i64 ((rd_T82 l1 x9_1).f1)]] (by rfl) rfl rfl (by (try simp only [b3, b4, b5]); first | done | rfl | (simp only [b0, b2]; rfl)) ?_; (with_reducible refine (impl_Border_70.calls k1 _ _ y208 ((rd_T82 l1 x9_1).f0) ((rd_T82 l1 x9_1).f1) true _ ?side1 ?side2 A23.out).mono ?_); (case side1 => repeat (first | exact (ay HR211.out HB.out) | (with_reducible refine ar ?_ _) | (with_reducible refine au ?_ _) | (with_reducible refine av ?_))); (case side2 => exact HC211.out); rintro e w30 ⟨rfl, hb⟩; refine ⟨_, rfl, ?_⟩; have n0_ := aa (ba (g := gb207) (o := .cells #[.int .i64 ((rd_T82 l1 x9_1).f0), .int .i64 ((rd_T82 l1 x9_1).f1)] 82 (0, 0)) (by (with_reducible repeat (first | refine an ?_ _ | refine aq ?_ | refine am ?_ _)); exact BK207.out) hb); have n1_ := aa (af (by repeat (first | (with_reducible first | exact HB.out | apply ae | apply ab | apply ac | refine ak ?_ GE207.out) | exact HB.out)) hb); clear BK207; clear HB; have BK207 := n0_; have HB := n1_; clear n0_ n1_; (try clear hb); (try clear hb2); (try clear hk); (try clear hi); refine hK.out _ _ ⟨(ap BK207.out 0).trans rfl, (ap BK207.out 1).trans rfl⟩ (fun hHeld => ?_); clear hK K; refine norm_ (a' := ?_) ?_ ?_; rotate_left
           ·show Act.put _ (some 35) _ = _; simp only [Act.put, a7, a8, a9, i64_w, i32_w]; rfl
           refine pure_ (i := 22) (N := some 36) (v := ?_) (a' := ?_) #[true, true, true, true, true, true, true, true, true, true, true, true, true, true, true, true, true, true, true, true, true, true, true] rfl rfl (any_of HT_.out (by kernel_rfl)) (fun _ _ _ h => h) (Or.inl ⟨by rfl, ?_⟩) ?_ ?_; rotate_left
           ·intro w'; go_simp; (with_reducible rfl)
           rotate_left
           ·simp only [Act.put, a7, a8, a9, i64_w, i32_w]; rfl
           refine done_ (done_of HT_.out (by kernel_rfl)) ?_; (try go_wp2); go_ret; exact ⟨by first | rfl | (simp [errW_none, errW_some] <;> rfl) | (simp [*, errW_none, errW_some] <;> rfl), by repeat (first | (with_reducible first | exact HB.out | apply ae | apply ab | apply ac | refine ak ?_ GE207.out) | exact HB.out)⟩
          ·replace c24 := Bool.eq_false_iff.mpr c24; subst c24; have H1 := H; rw [if_neg (show ¬ (false = true) by decide)] at H1; clear H; have H := H1; clear H1; have H' := aa H; clear H; have p206 : 0 ≤ (x9_1 : Int) := of_decide_eq_true (by first | (with_reducible assumption) | assumption); have q206 : x9_1 < (l1.length : Int) := of_decide_eq_true (by first | (with_reducible assumption) | assumption); obtain ⟨ad206, e206, hx206_0, hx206_1⟩ := at_T82 HR1.out x9_1 p206 q206
           cases e206
           replace hx206_0 := (HB.out.cell (World.block_lt_of_cell? w _ hx206_0)).trans hx206_0; replace hx206_1 := (HB.out.cell (World.block_lt_of_cell? w _ hx206_1)).trans hx206_1; replace p206 := eq_true p206; replace q206 := eq_true q206; (try go_wp2_with (first | ((with_reducible refine az (N := 6) rfl ?_); (try (refine gate_guard (by rfl) ?_; dsimp only)); refine bb ?hg (N := 6) ?hd (cs := #[.int .i64 0, .int .i64 0]) (t := 82) ?hr ?_; (case hd => rfl); (case hg => rfl); (case hr => first | (go_simp; done) | (go_simp; rfl)); intro gb207 hg w31 hbox hb; have n0_ := aa (af (by repeat (first | (with_reducible first | exact HB.out | apply ae | apply ab | apply ac) | exact HB.out)) hb); have n1_ := aa (hbox); have n2_ := aa ((by rw [hg]; exact (al (by repeat (first | (with_reducible first | exact HB.out | apply ae | apply ab | apply ac) | exact HB.out))) : w.heap.size ≤ gb207)); have n3_ := aa ((by rw [hg]; exact (al (by repeat (first | (with_reducible first | exact HB.out | apply ae | apply ab | apply ac) | exact HB.out))) : w.heap.size ≤ gb207)); clear HB; have HB := n0_; have BK207 := n1_; have GW207 := n2_; have GE207 := n3_; clear n0_ n1_ n2_ n3_; clear hb hbox hg; have hcz32_0 : w31.cell? ⟨gb207, 0, none⟩ = some (.int .i64 0) := (ap BK207.out 0).trans rfl; have hcz32_1 : w31.cell? ⟨gb207, 1, none⟩ = some (.int .i64 0) := (ap BK207.out 1).trans rfl; have hfz32_0 := ao BK207.out 0; have hfz32_1 := ao BK207.out 1))); have n0_ : Aside0 (((w31.setCell ⟨gb207, 0, none⟩ (.int .i64 ((rd_T82 l1 x9_1).f0))).setCell ⟨gb207, 1, none⟩ (.int .i64 ((rd_T82 l1 x9_1).f1))).heap[gb207]? = some (.cells #[.int .i64 ((rd_T82 l1 x9_1).f0), .int .i64 ((rd_T82 l1 x9_1).f1)] 82 (0, 0))) := ⟨by (with_reducible repeat (first | refine an ?_ _ | refine aq ?_ | refine am ?_ _)); refine blk_put (cs := #[.int .i64 ((rd_T82 l1 x9_1).f0), .int .i64 0]) ?_ 1 _ rfl; (with_reducible repeat (first | refine an ?_ _ | refine aq ?_ | refine am ?_ _)); refine blk_put (cs := #[.int .i64 0, .int .i64 0]) ?_ 0 _ rfl; (with_reducible repeat (first | refine an ?_ _ | refine aq ?_ | refine am ?_ _)); exact BK207.out⟩; have n1_ : Aside0 (Below w.heap.size w ((w31.setCell ⟨gb207, 0, none⟩ (.int .i64 ((rd_T82 l1 x9_1).f0))).setCell ⟨gb207, 1, none⟩ (.int .i64 ((rd_T82 l1 x9_1).f1)))) := ⟨by repeat (first | (with_reducible first | exact HB.out | apply ae | apply ab | apply ac | refine ak ?_ GE207.out) | exact HB.out)⟩; (try clear BK207); (try clear HB); generalize ((w31.setCell ⟨gb207, 0, none⟩ (.int .i64 ((rd_T82 l1 x9_1).f0))).setCell ⟨gb207, 1, none⟩ (.int .i64 ((rd_T82 l1 x9_1).f1))) = w33 at n0_ n1_ ⊢; have BK207 := n0_; have HB := n1_; clear n0_ n1_; have n0_ := aa (aq BK207.out); have n1_ := aa (ac HB.out); clear BK207; clear HB; have BK207 := n0_; have HB := n1_; clear n0_ n1_; have q35 : (x9_1 : Int) ≤ ((l1.length : Int) : Int) := of_decide_eq_true (by first | (with_reducible assumption) | assumption); obtain ⟨i035, hi035, _, hsz35, _⟩ := info_parts info82; have hroom35 : l1.length ≤ c1 := HC1.out; have hC35 : Kd.C k82 _ (some ad206) l1.length l1 := HR1.out; have hcut35 := cut_to (P := Tryz.prog) 31 82 .i64 Tryz.underlying31 hi035 (some ad206) l1.length c1 x9_1 (of_decide_eq_true (by first | (with_reducible assumption) | assumption)) q35 hroom35; have hr35 := Kd.C_take (m := (x9_1 : Int).toNat) hC35 (by omega); have hy35 : y208.length = (x9_1 : Int).toNat := (by rw [Ny208.out, b2]; omega); rw [← Ny208.out] at hr35; rw [← hy35] at hcut35; have HR211 := aa hr35; have HC211 := aa (show y208.length ≤ c1 from by omega); clear hr35 hC35 hroom35 hi035 hsz35; have KY35 := aa hy35; clear hy35; replace q35 := eq_true q35; refine start_ (n := 23) (S := fun w' => w'.cell? ⟨gb207, 0, none⟩ = some (.int .i64 ((rd_T82 l1 x9_1).f0)) ∧ w'.cell? ⟨gb207, 1, none⟩ = some (.int .i64 ((rd_T82 l1 x9_1).f1))) (ds := []) #[false, false, false, false, false, false, false, false, false, false, false, false, false, false, false, false, false, false, false, false, false, false, false] (by kernel_rfl) rfl rfl ⟨(ap BK207.out 0).trans rfl, (ap BK207.out 1).trans rfl⟩ (fun hHeld => ?_); refine with_tabW impl_ValidBorders.tab4 impl_ValidBorders.bits4 (fun HT_ HW_ => ?_); generalize w33.drew = w34 at BK207 HB HR211 hHeld ⊢; refine pure_ (i := 0) (N := some 14) (v := ?_) (a' := ?_) #[true, false, false, false, false, false, false, false, false, false, false, false, false, false, false, false, false, false, false, false, false, false, false] rfl rfl (any_of HT_.out (by kernel_rfl)) (fun _ _ _ h => h) (Or.inl ⟨by rfl, ?_⟩) ?_ ?_; rotate_left
           ·intro w'; go_simp; (with_reducible rfl)
           rotate_left
           ·simp only [Act.put, a7, a8, a9, i64_w, i32_w]; rfl
           refine take_ (i := 1) (N := some 15) (v := ?_) (a' := ?_) #[true, true, false, false, false, false, false, false, false, false, false, false, false, false, false, false, false, false, false, false, false, false, false] rfl rfl (take_ofW HT_.out HW_.out (by kernel_rfl)) (fun _ _ _ h => h) (Or.inl ⟨by rfl, ?_⟩) hHeld ?_ ?_; rotate_left
           ·rintro w' ⟨s0, s1⟩; go_simp; (with_reducible rfl)
           rotate_left
           ·simp only [Act.put, a7, a8, a9, i64_w, i32_w]; rfl
           refine pure_ (i := 2) (N := some 16) (v := ?_) (a' := ?_) #[true, true, true, false, false, false, false, false, false, false, false, false, false, false, false, false, false, false, false, false, false, false, false] rfl rfl (any_of HT_.out (by kernel_rfl)) (fun _ _ _ h => h) (Or.inl ⟨by rfl, ?_⟩) ?_ ?_; rotate_left
           ·intro w'; go_simp; (with_reducible rfl)
           rotate_left
           ·simp only [Act.put, a7, a8, a9, i64_w, i32_w]; rfl
           refine pure_ (i := 3) (N := some 17) (v := ?_) (a' := ?_) #[true, true, true, true, false, false, false, false, false, false, false, false, false, false, false, false, false, false, false, false, false, false, false] rfl rfl (any_of HT_.out (by kernel_rfl)) (fun _ _ _ h => h) (Or.inl ⟨by rfl, ?_⟩) ?_ ?_; rotate_left
           ·intro w'; go_simp; (with_reducible rfl)
           rotate_left
           ·simp only [Act.put, a7, a8, a9, i64_w, i32_w]; rfl
           refine pure_ (i := 4) (N := some 18) (v := ?_) (a' := ?_) #[true, true, true, true, true, false, false, false, false, false, false, false, false, false, false, false, false, false, false, false, false, false, false] rfl rfl (any_of HT_.out (by kernel_rfl)) (fun _ _ _ h => h) (Or.inl ⟨by rfl, ?_⟩) ?_ ?_; rotate_left
           ·intro w'; go_simp; (with_reducible rfl)
           rotate_left
           ·simp only [Act.put, a7, a8, a9, i64_w, i32_w]; rfl
           refine pure_ (i := 6) (N := some 20) (v := ?_) (a' := ?_) #[true, true, true, true, true, false, true, false, false, false, false, false, false, false, false, false, false, false, false, false, false, false, false] rfl rfl (any_of HT_.out (by kernel_rfl)) (fun _ _ _ h => h) (Or.inl ⟨by rfl, ?_⟩) ?_ ?_; rotate_left
           ·intro w'; go_simp; (with_reducible rfl)
           rotate_left
           ·simp only [Act.put, a7, a8, a9, i64_w, i32_w]; rfl
           refine take_ (i := 5) (N := some 19) (v := ?_) (a' := ?_) #[true, true, true, true, true, true, true, false, false, false, false, false, false, false, false, false, false, false, false, false, false, false, false] rfl rfl (take_ofW HT_.out HW_.out (by kernel_rfl)) (fun _ _ _ h => h) (Or.inl ⟨by rfl, ?_⟩) hHeld ?_ ?_; rotate_left
           ·rintro w' ⟨s0, s1⟩; go_simp; (with_reducible rfl)
           rotate_left
           ·simp only [Act.put, a7, a8, a9, i64_w, i32_w]; rfl
           refine take_ (i := 7) (N := some 21) (v := ?_) (a' := ?_) #[true, true, true, true, true, true, true, true, false, false, false, false, false, false, false, false, false, false, false, false, false, false, false] rfl rfl (take_ofW HT_.out HW_.out (by kernel_rfl)) (fun _ _ _ h => h) (Or.inl ⟨by rfl, ?_⟩) hHeld ?_ ?_; rotate_left
           ·rintro w' ⟨s0, s1⟩; go_simp; (with_reducible rfl)
           rotate_left
           ·simp only [Act.put, a7, a8, a9, i64_w, i32_w]; rfl
           refine pure_ (i := 8) (N := some 22) (v := ?_) (a' := ?_) #[true, true, true, true, true, true, true, true, true, false, false, false, false, false, false, false, false, false, false, false, false, false, false] rfl rfl (any_of HT_.out (by kernel_rfl)) (fun _ _ _ h => h) (Or.inl ⟨by rfl, ?_⟩) ?_ ?_; rotate_left
           ·intro w'; go_simp; (with_reducible rfl)
           rotate_left
           ·simp only [Act.put, a7, a8, a9, i64_w, i32_w]; rfl
           refine pure_ (i := 9) (N := some 23) (v := ?_) (a' := ?_) #[true, true, true, true, true, true, true, true, true, true, false, false, false, false, false, false, false, false, false, false, false, false, false] rfl rfl (any_of HT_.out (by kernel_rfl)) (fun _ _ _ h => h) (Or.inl ⟨by rfl, ?_⟩) ?_ ?_; rotate_left
           ·intro w'; go_simp; (with_reducible rfl)
           rotate_left
           ·simp only [Act.put, a7, a8, a9, i64_w, i32_w]; rfl
           refine pure_ (i := 10) (N := some 24) (v := ?_) (a' := ?_) #[true, true, true, true, true, true, true, true, true, true, true, false, false, false, false, false, false, false, false, false, false, false, false] rfl rfl (any_of HT_.out (by kernel_rfl)) (fun _ _ _ h => h) (Or.inl ⟨by rfl, ?_⟩) ?_ ?_; rotate_left
           ·intro w'; go_simp; (with_reducible rfl)
           rotate_left
           ·simp only [Act.put, a7, a8, a9, i64_w, i32_w]; rfl
           refine pure_ (i := 11) (N := some 25) (v := ?_) (a' := ?_) #[true, true, true, true, true, true, true, true, true, true, true, true, false, false, false, false, false, false, false, false, false, false, false] rfl rfl (any_of HT_.out (by kernel_rfl)) (fun _ _ _ h => h) (Or.inl ⟨by rfl, ?_⟩) ?_ ?_; rotate_left
           ·intro w'; go_simp; (with_reducible rfl)
           rotate_left
           ·simp only [Act.put, a7, a8, a9, i64_w, i32_w]; rfl
           refine pure_ (i := 13) (N := some 27) (v := ?_) (a' := ?_) #[true, true, true, true, true, true, true, true, true, true, true, true, false, true, false, false, false, false, false, false, false, false, false] rfl rfl (any_of HT_.out (by kernel_rfl)) (fun _ _ _ h => h) (Or.inl ⟨by rfl, ?_⟩) ?_ ?_; rotate_left
           ·intro w'; go_simp; (with_reducible rfl)
           rotate_left
           ·simp only [Act.put, a7, a8, a9, i64_w, i32_w]; rfl
           refine take_ (i := 12) (N := some 26) (v := ?_) (a' := ?_) #[true, true, true, true, true, true, true, true, true, true, true, true, true, true, false, false, false, false, false, false, false, false, false] rfl rfl (take_ofW HT_.out HW_.out (by kernel_rfl)) (fun _ _ _ h => h) (Or.inl ⟨by rfl, ?_⟩) hHeld ?_ ?_; rotate_left
           ·rintro w' ⟨s0, s1⟩; go_simp; (with_reducible rfl)
           rotate_left
           ·simp only [Act.put, a7, a8, a9, i64_w, i32_w]; rfl
           refine pure_ (i := 14) (N := some 28) (v := ?_) (a' := ?_) #[true, true, true, true, true, true, true, true, true, true, true, true, true, true, true, false, false, false, false, false, false, false, false] rfl rfl (any_of HT_.out (by kernel_rfl)) (fun _ _ _ h => h) (Or.inl ⟨by rfl, ?_⟩) ?_ ?_; rotate_left
           ·intro w'; go_simp; (with_reducible rfl)
           rotate_left
           ·simp only [Act.put, a7, a8, a9, i64_w, i32_w]; rfl
           refine pure_ (i := 15) (N := some 29) (v := ?_) (a' := ?_) #[true, true, true, true, true, true, true, true, true, true, true, true, true, true, true, true, false, false, false, false, false, false, false] rfl rfl (any_of HT_.out (by kernel_rfl)) (fun _ _ _ h => h) (Or.inl ⟨by rfl, ?_⟩) ?_ ?_; rotate_left
           ·intro w'; go_simp; (with_reducible rfl)
           rotate_left
           ·simp only [Act.put, a7, a8, a9, i64_w, i32_w]; rfl
           refine pure_ (i := 16) (N := some 30) (v := ?_) (a' := ?_) #[true, true, true, true, true, true, true, true, true, true, true, true, true, true, true, true, true, false, false, false, false, false, false] rfl rfl (any_of HT_.out (by kernel_rfl)) (fun _ _ _ h => h) (Or.inl ⟨by rfl, ?_⟩) ?_ ?_; rotate_left
           ·intro w'; go_simp; (with_reducible rfl)
           rotate_left
           ·simp only [Act.put, a7, a8, a9, i64_w, i32_w]; rfl
           refine pure_ (i := 17) (N := some 31) (v := ?_) (a' := ?_) #[true, true, true, true, true, true, true, true, true, true, true, true, true, true, true, true, true, true, false, false, false, false, false] rfl rfl (any_of HT_.out (by kernel_rfl)) (fun _ _ _ h => h) (Or.inl ⟨by rfl, ?_⟩) ?_ ?_; rotate_left
           ·intro w'; go_simp; (with_reducible rfl)
           rotate_left
           ·simp only [Act.put, a7, a8, a9, i64_w, i32_w]; rfl
           refine pure_ (i := 18) (N := some 32) (v := ?_) (a' := ?_) #[true, true, true, true, true, true, true, true, true, true, true, true, true, true, true, true, true, true, true, false, false, false, false] rfl rfl (any_of HT_.out (by kernel_rfl)) (fun _ _ _ h => h) (Or.inl ⟨by rfl, ?_⟩) ?_ ?_; rotate_left
           ·intro w'; go_simp; (with_reducible rfl)
           rotate_left
           ·simp only [Act.put, a7, a8, a9, i64_w, i32_w]; rfl
           refine pure_ (i := 19) (N := some 33) (v := ?_) (a' := ?_) #[true, true, true, true, true, true, true, true, true, true, true, true, true, true, true, true, true, true, true, true, false, false, false] rfl rfl (any_of HT_.out (by kernel_rfl)) (fun _ _ _ h => h) (Or.inl ⟨by rfl, ?_⟩) ?_ ?_; rotate_left
           ·intro w'; go_simp; (with_reducible rfl)
           rotate_left
           ·simp only [Act.put, a7, a8, a9, i64_w, i32_w]; rfl
           refine take_ (i := 20) (N := some 34) (v := ?_) (a' := ?_) #[true, true, true, true, true, true, true, true, true, true, true, true, true, true, true, true, true, true, true, true, true, false, false] rfl rfl (take_ofW HT_.out HW_.out (by kernel_rfl)) (fun _ _ _ h => h) (Or.inl ⟨by rfl, ?_⟩) hHeld ?_ ?_; rotate_left
           ·rintro w' ⟨s0, s1⟩; go_simp; (with_reducible rfl)
           rotate_left
           ·simp only [Act.put, a7, a8, a9, i64_w, i32_w]; rfl
           refine one_ (i := 21) (N := some 35) #[true, true, true, true, true, true, true, true, true, true, true, true, true, true, true, true, true, true, true, true, true, true, false] rfl rfl (one_of HT_.out (by kernel_rfl)) (by decide) (fun K hK => ?_); refine goes_ Tryz.func70 (by kernel_rfl) rfl #[.slice (some ad206) y208.length c1, .agg #[.int .i64 ((rd_T82 l1 x9_1).f0), .int .i64 ((rd_T82 l1 x9_1).f1)]] (by rfl) rfl rfl (by (try simp only [b3, b4, b5]); first | done | rfl | (simp only [b0, b2]; rfl)) ?_; (with_reducible refine (impl_Border_70.calls k1 _ _ y208 ((rd_T82 l1 x9_1).f0) ((rd_T82 l1 x9_1).f1) false _ ?side1 ?side2 A23.out).mono ?_); (case side1 => repeat (first | exact (ay HR211.out HB.out) | (with_reducible refine ar ?_ _) | (with_reducible refine au ?_ _) | (with_reducible refine av ?_))); (case side2 => exact HC211.out); rintro e w36 ⟨rfl, hb⟩; refine ⟨_, rfl, ?_⟩; have n0_ := aa (ba (g := gb207) (o := .cells #[.int .i64 ((rd_T82 l1 x9_1).f0), .int .i64 ((rd_T82 l1 x9_1).f1)] 82 (0, 0)) (by (with_reducible repeat (first | refine an ?_ _ | refine aq ?_ | refine am ?_ _)); exact BK207.out) hb); have n1_ := aa (af (by repeat (first | (with_reducible first | exact HB.out | apply ae | apply ab | apply ac | refine ak ?_ GE207.out) | exact HB.out)) hb); clear BK207; clear HB; have BK207 := n0_; have HB := n1_; clear n0_ n1_; (try clear hb); (try clear hb2); (try clear hk); (try clear hi); refine hK.out _ _ ⟨(ap BK207.out 0).trans rfl, (ap BK207.out 1).trans rfl⟩ (fun hHeld => ?_); clear hK K; refine norm_ (a' := ?_) ?_ ?_; rotate_left
           ·show Act.put _ (some 35) _ = _; simp only [Act.put, a7, a8, a9, i64_w, i32_w]; rfl
           refine pure_ (i := 22) (N := some 36) (v := ?_) (a' := ?_) #[true, true, true, true, true, true, true, true, true, true, true, true, true, true, true, true, true, true, true, true, true, true, true] rfl rfl (any_of HT_.out (by kernel_rfl)) (fun _ _ _ h => h) (Or.inl ⟨by rfl, ?_⟩) ?_ ?_; rotate_left
           ·intro w'; go_simp; (with_reducible rfl)
           rotate_left
           ·simp only [Act.put, a7, a8, a9, i64_w, i32_w]; rfl
           refine done_ (done_of HT_.out (by kernel_rfl)) ?_; (try go_wp2); go_roundg k1
           case measure => have := HK1.out; omega
           case rel => exact ⟨(wrap64 (x9_1 + 1)), (by first | rfl | (simp; done) | (simp [*]; done)), H', ⟨by have := HK1.out; omega⟩, ⟨by repeat (first | (with_reducible first | exact HB.out | apply ae | apply ab | apply ac | refine ak ?_ GE207.out) | exact HB.out)⟩⟩
         ·rw [if_neg c22] at H; exact absurd H (by simp)
     ·rw [if_neg c5] at H; exact absurd H (by simp)
    ·rw [if_neg c4] at H; exact absurd H (by simp)
   ·rw [if_neg c3] at H; have c3b0 : decide (x9_1 < (l1.length : Int)) = false := decide_eq_false c3; clear c3; replace H := bf.mp H; obtain ⟨t213, A370, H⟩ := H; replace H : (if t213 = true then (some (decide ((l1.length : Int) ≤ 30))) else (some false)) = some r := H; have A37 := aa A370; clear A370; by_cases c38 : t213 = true
    ·subst c38; (have H1 : (some (decide ((l1.length : Int) ≤ 30))) = some r := by rw [if_pos rfl] at H; exact H); clear H; have H := H1; clear H1; obtain rfl := Option.some.inj H
     go_wp2_with (first | ((with_reducible refine gate_callee (f := 49) rfl ?_); refine goesL_ (some 39) rfl rfl Tryz.func49 (by kernel_rfl) rfl #[.int .i64 a0, .int .i64 1, .int .i64 10] rfl (by (try simp only [b3, b4, b5]); first | done | rfl | (simp only [b0, b2]; rfl)) ?_; (with_reducible refine (impl_within.calls a0 1 10 true _ A37.out).mono ?_); rintro e w' ⟨rfl, ⟨nd, rfl⟩⟩; refine ⟨_, rfl, ?_⟩))
     go_ret; exact ⟨by first | rfl | (simp [errW_none, errW_some] <;> rfl) | (simp [*, errW_none, errW_some] <;> rfl), by repeat (first | (with_reducible first | exact HB.out | apply ae | apply ab | apply ac) | exact HB.out)⟩
    ·replace c38 := Bool.eq_false_iff.mpr c38; subst c38; (have H1 : (some false) = some r := by rw [if_neg (show ¬ (false = true) by decide)] at H; exact H); clear H; have H := H1; clear H1; obtain rfl := Option.some.inj H
     go_wp2_with (first | ((with_reducible refine gate_callee (f := 49) rfl ?_); refine goesL_ (some 39) rfl rfl Tryz.func49 (by kernel_rfl) rfl #[.int .i64 a0, .int .i64 1, .int .i64 10] rfl (by (try simp only [b3, b4, b5]); first | done | rfl | (simp only [b0, b2]; rfl)) ?_; (with_reducible refine (impl_within.calls a0 1 10 false _ A37.out).mono ?_); rintro e w' ⟨rfl, ⟨nd, rfl⟩⟩; refine ⟨_, rfl, ?_⟩))
     go_ret; exact ⟨by first | rfl | (simp [errW_none, errW_some] <;> rfl) | (simp [*, errW_none, errW_some] <;> rfl), by repeat (first | (with_reducible first | exact HB.out | apply ae | apply ab | apply ac) | exact HB.out)⟩
end Go.Proofs.YtmgljagkmaoopaaGreat.QFnTopOfAll
