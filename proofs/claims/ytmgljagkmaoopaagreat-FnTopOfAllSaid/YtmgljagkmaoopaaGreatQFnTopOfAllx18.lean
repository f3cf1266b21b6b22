/- Walks of the Go functions that the law FnTopOfAll reaches: written by a program of this session. -/
import Derived.Test.YtmgljagkmaoopaaGreatQFnTopOfAllx0
import Derived.Test.YtmgljagkmaoopaaGreatQFnTopOfAllx5
import Derived.Test.YtmgljagkmaoopaaGreatQFnTopOfAllx11
import Derived.Test.YtmgljagkmaoopaaGreatQFnTopOfAllx17
namespace Go.Proofs.YtmgljagkmaoopaaGreat.QFnTopOfAll
open Go.RowKit Go.Proofs.YtmgljagkmaoopaaGreatW.PrintWords Go.Proofs.YtmgljagkmaoopaaGreatW.PrintLast Go.Proofs.YtmgljagkmaoopaaGreatW.PrintMore
attribute [local go_sem] max2_int min2_int max_two min_two max_three min_three max_four min_four
open Go.Proofs.YtmgljagkmaoopaaGreatW.PrintWords renaming below_alloc → ae, below_drew1 → ac, below_size → al, below_step → af, blk_alloc → am, blk_below → ba, blk_cell → ap, blk_frozen → ao, gate_dst → az, pw_below_drewN → ab
open Go.Proofs.YtmgljagkmaoopaaGreatW.PrintWords.Aside0 renaming mk → aa
open Go.Proofs.YtmgljagkmaoopaaGreatW.PrintWords.Kd renaming C_alloc → ar, C_below → ay, C_drew → av, C_drewN → au, R_alloc → ah, R_below → be, R_drew → ai, R_drewN → ag, R_lower → bd, R_mono → bc, R_reads' → aw, at_int → ax
open Option renaming bind_eq_some_iff → bf
open List renaming length_drop → b0, length_take → b2, map_cons → b4, map_nil → b5, map_toArray → b3
open Option renaming bind_some → b6
set_option linter.unusedVariables false
set_option linter.unusedSimpArgs false
def spec_FewestPoints.f (k : Nat) (l0 : List (S71)) (a1 : Int) : Option (List Int × Int) := (spec_l07Code.f k l0 a1).bind fun t358 => (if t358 = 0 then ((spec_l07Fewest.f k l0 a1).bind fun t359 => (some (t359, 0))) else (some (([] : List Int), t358)))
theorem spec_FewestPoints.mono : ∀ a0 a1 k, LeO (spec_FewestPoints.f k a0 a1) (spec_FewestPoints.f (k + 1) a0 a1) := by
 intro a0 a1 k; unfold spec_FewestPoints.f
 repeat' first
   | (with_reducible exact spec_l07Code.mono _ _ _)
   | (with_reducible exact spec_l07Fewest.mono _ _ _)
   | (with_reducible exact LeO.refl _)
   | (with_reducible exact LeO.none _)
   | (with_reducible refine LeO.ite ?_ ?_)
   | (with_reducible refine LeO.bind ?_ (fun _ => ?_))
   | exact spec_l07Code.mono _ _ _
   | exact spec_l07Fewest.mono _ _ _
   | exact LeO.none _
   | refine LeO.ite ?_ ?_
   | refine LeO.bind ?_ (fun _ => ?_)
set_option maxHeartbeats 8000000 in
set_option maxRecDepth 100000 in
theorem spec_FewestPoints.calls (k : Nat) (A0 : Option Addr) (c0 : Nat) (l0 : List (S71)) (a1 : Int) (r1 : List Int) (r2 : Int) (w : World) (hr0 : Kd.C k71 w A0 l0.length l0) (hc0 : l0.length ≤ c0) (h : spec_FewestPoints.f k l0 a1 = some (r1, r2)) :
  Calls Tryz.prog 23 #[.slice A0 l0.length c0, .int .i64 a1] w fun e w' => ∃ v0_ : Value, e = .returned (.tuple #[v0_, .int .i64 r2]) ∧ Kd.R (Kd.int .i64) 2 w' w.heap.size (fun _ => True) v0_ r1 ∧ Below w.heap.size w w' := by
 have HR0 := aa hr0; have HC0 := aa hc0; clear hr0 hc0; have HB := aa (Below.refl w.heap.size w); have H : ((spec_l07Code.f k l0 a1).bind fun t358 => (if t358 = 0 then ((spec_l07Fewest.f k l0 a1).bind fun t359 => (some (t359, 0))) else (some (([] : List Int), t358)))) = some (r1, r2) := h; clear h; replace H := bf.mp H; obtain ⟨t358, A30, H⟩ := H; (try dsimp only at H); have A3 := aa A30; clear A30; by_cases c4 : t358 = 0
 ·rw [if_pos c4] at H; have c4b0 : (t358 == 0) = true := beq_iff_eq.mpr c4; have c4b1 : (t358 != 0) = false := bne_eq_false_iff_eq.mpr c4; clear c4; replace H := bf.mp H; obtain ⟨t359, A50, H⟩ := H; replace H : (some (t359, 0)) = some (r1, r2) := H; have A5 := aa A50; clear A50; simp only [Option.some.injEq, Prod.mk.injEq] at H; obtain ⟨rfl, rfl⟩ := H; go_enter Tryz.func23, Tryz.ntmps23
  go_wp2_with (first | ((with_reducible refine gate_callee (f := 55) rfl ?_); refine goesL_ (some 9) rfl rfl Tryz.func55 (by kernel_rfl) rfl #[.slice A0 l0.length c0, .int .i64 a1] rfl (by (try simp only [b3, b4, b5]); first | done | rfl | (simp only [b0, b2]; rfl)) ?_; (with_reducible refine (spec_l07Code.calls k _ _ l0 a1 t358 _ ?side1 ?side2 A3.out).mono ?_); (case side1 => repeat (first | exact HR0.out | (with_reducible refine ar ?_ _) | (with_reducible refine au ?_ _) | (with_reducible refine av ?_))); (case side2 => exact HC0.out); rintro e w' ⟨rfl, ⟨nd, rfl⟩⟩; refine ⟨_, rfl, ?_⟩) | ((with_reducible refine gate_callee (f := 56) rfl ?_); refine goesL_ (some 15) rfl rfl Tryz.func56 (by kernel_rfl) rfl #[.slice A0 l0.length c0, .int .i64 a1] rfl (by (try simp only [b3, b4, b5]); first | done | rfl | (simp only [b0, b2]; rfl)) ?_; (with_reducible refine (spec_l07Fewest.calls k _ _ l0 a1 t359 _ ?side1 ?side2 A5.out).mono ?_); (case side1 => repeat (first | exact HR0.out | (with_reducible refine ar ?_ _) | (with_reducible refine au ?_ _) | (with_reducible refine av ?_))); (case side2 => exact HC0.out); rintro e w6 ⟨v360, rfl, ho0, hb⟩; refine ⟨_, rfl, ?_⟩; have n0_ := aa (bd ho0 (al (by repeat (first | (with_reducible first | exact HB.out | apply ae | apply ab | apply ac) | exact HB.out)))); have n1_ := aa (af (by repeat (first | (with_reducible first | exact HB.out | apply ae | apply ab | apply ac) | exact HB.out)) hb); clear HB; have HO361 := n0_; have HB := n1_; clear n0_ n1_; (try clear hb); (try clear hb2); (try clear hk); (try clear hi); (try clear ho0)))
  go_ret2; exact ⟨_, by first | rfl | (simp [errW_none, errW_some] <;> rfl) | (simp [*, errW_none, errW_some] <;> rfl), by (with_reducible repeat (first | apply ah | apply ag | apply ai)); exact HO361.out, by repeat (first | (with_reducible first | exact HB.out | apply ae | apply ab | apply ac) | exact HB.out)⟩
 ·rw [if_neg c4] at H; have c4b0 : (t358 == 0) = false := beq_eq_false_iff_ne.mpr c4; have c4b1 : (t358 != 0) = true := bne_iff_ne.mpr c4; simp only [Option.some.injEq, Prod.mk.injEq] at H; obtain ⟨rfl, rfl⟩ := H; go_enter Tryz.func23, Tryz.ntmps23
  go_wp2_with (first | ((with_reducible refine gate_callee (f := 55) rfl ?_); refine goesL_ (some 9) rfl rfl Tryz.func55 (by kernel_rfl) rfl #[.slice A0 l0.length c0, .int .i64 a1] rfl (by (try simp only [b3, b4, b5]); first | done | rfl | (simp only [b0, b2]; rfl)) ?_; (with_reducible refine (spec_l07Code.calls k _ _ l0 a1 t358 _ ?side1 ?side2 A3.out).mono ?_); (case side1 => repeat (first | exact HR0.out | (with_reducible refine ar ?_ _) | (with_reducible refine au ?_ _) | (with_reducible refine av ?_))); (case side2 => exact HC0.out); rintro e w' ⟨rfl, ⟨nd, rfl⟩⟩; refine ⟨_, rfl, ?_⟩))
  go_ret2; exact ⟨_, by first | rfl | (simp [errW_none, errW_some] <;> rfl) | (simp [*, errW_none, errW_some] <;> rfl), by first | exact Kd.R_nil _ _ _ _ _ | exact Kd.N_nil _ _ _ _ _ | exact Kd.V_nil _ _ _ _ _ | exact Kd.Q_nil _ _ _ _ _ | exact Kd.S_nil _ _ _ _ _, by repeat (first | (with_reducible first | exact HB.out | apply ae | apply ab | apply ac) | exact HB.out)⟩
def laws_a2Same.l0 : Nat → List Int → List Int → Int → Option (Bool)
 | 0, _, _, _ => none
 | k + 1, x0, x1, x5 => if x5 < (x0.length : Int) then (if 0 ≤ x5 then (if x5 < (x1.length : Int) then (if (rd x0 x5) = (rd x1 x5) then (laws_a2Same.l0 k x0 x1 (wrap64 (x5 + 1))) else (some false)) else (none)) else (none)) else (some true)
def laws_a2Same.f (k : Nat) (l0 : List Int) (l1 : List Int) : Option (Bool) := if (l0.length : Int) = (l1.length : Int) then (laws_a2Same.l0 k l0 l1 0) else (some false)
theorem laws_a2Same.mono_l : ∀ k, (∀ y0 y1 y2, LeO (laws_a2Same.l0 k y0 y1 y2) (laws_a2Same.l0 (k + 1) y0 y1 y2))
 | 0 => fun _ _ _ r h => by simp [laws_a2Same.l0] at h
 | k + 1 => by
  have ih0 := laws_a2Same.mono_l k
  ·intro y0 y1 y2; unfold laws_a2Same.l0
   repeat' first
   | (with_reducible exact ih0 _ _ _)
   | (with_reducible exact LeO.refl _)
   | (with_reducible exact LeO.none _)
   | (with_reducible refine LeO.ite ?_ ?_)
   | (with_reducible refine LeO.bind ?_ (fun _ => ?_))
   | exact ih0 _ _ _
   | exact LeO.none _
   | refine LeO.ite ?_ ?_
   | refine LeO.bind ?_ (fun _ => ?_)
theorem laws_a2Same.mono : ∀ a0 a1 k, LeO (laws_a2Same.f k a0 a1) (laws_a2Same.f (k + 1) a0 a1) := by
 intro a0 a1 k; have ih0 := laws_a2Same.mono_l k; unfold laws_a2Same.f
 repeat' first
   | (with_reducible exact ih0 _ _ _)
   | (with_reducible exact LeO.refl _)
   | (with_reducible exact LeO.none _)
   | (with_reducible refine LeO.ite ?_ ?_)
   | (with_reducible refine LeO.bind ?_ (fun _ => ?_))
   | exact ih0 _ _ _
   | exact LeO.none _
   | refine LeO.ite ?_ ?_
   | refine LeO.bind ?_ (fun _ => ?_)
set_option maxHeartbeats 8000000 in
set_option maxRecDepth 100000 in
theorem laws_a2Same.calls (k : Nat) (A0 : Option Addr) (c0 : Nat) (l0 : List Int) (A1 : Option Addr) (c1 : Nat) (l1 : List Int) (r : Bool) (w : World) (hr0 : Kd.C (Kd.int .i64) w A0 l0.length l0) (hc0 : l0.length ≤ c0) (hr1 : Kd.C (Kd.int .i64) w A1 l1.length l1) (hc1 : l1.length ≤ c1) (h : laws_a2Same.f k l0 l1 = some r) :
  Calls Tryz.prog 24 #[.slice A0 l0.length c0, .slice A1 l1.length c1] w fun e w' => e = .returned (.bool r) ∧ Drawn0 w w' := by
 have HR0 := aa hr0; have HC0 := aa hc0; clear hr0 hc0; have HR1 := aa hr1; have HC1 := aa hc1; clear hr1 hc1; have H : (if (l0.length : Int) = (l1.length : Int) then (laws_a2Same.l0 k l0 l1 0) else (some false)) = some r := h; clear h; by_cases c3 : (l0.length : Int) = (l1.length : Int)
 ·rw [if_pos c3] at H; have c3b0 : ((l0.length : Int) == (l1.length : Int)) = true := beq_iff_eq.mpr c3; have c3b1 : ((l0.length : Int) != (l1.length : Int)) = false := bne_eq_false_iff_eq.mpr c3; (have c3b2 : (l0.length == l1.length) = true := by first | simpa using c3 | (simp at c3 ⊢; omega)); clear c3; have H' := aa H; clear H; go_enter Tryz.func24, Tryz.ntmps24; go_wp2; (repeat (go_quiet (fail); try go_wp2))
  go_loopg [5] k (fun kq v5 w' => ∃ (x5_1 : Int), v5 = .int .i64 x5_1 ∧ Aside0 (laws_a2Same.l0 kq l0 l1 x5_1 = some r) ∧ Aside0 (kq ≤ k) ∧ Drawn0 w w')
  case atStart => exact ⟨(0), (by first | rfl | (simp; done) | (simp [*]; done)), H', ⟨Nat.le_refl _⟩, by repeat (first | exact Drawn0.refl _ | apply Drawn0.step)⟩
  case round =>
   clear H'; (try clear c1); (try clear c2); (try clear p2); (try clear c3); (try clear c3b0); (try clear c3b1); (try clear c3b2); obtain ⟨x5_1, rfl, HA, HK1, ⟨m1, rfl⟩⟩ := hrel
   cases gk with
   | zero => exact absurd HA.out (by simp [laws_a2Same.l0])
   | succ k1 =>
    have H := HA.out; clear HA; simp only [laws_a2Same.l0] at H; by_cases c4 : x5_1 < (l0.length : Int)
    ·rw [if_pos c4] at H; have c4b0 : decide (x5_1 < (l0.length : Int)) = true := decide_eq_true c4; clear c4; by_cases c5 : 0 ≤ x5_1
     ·rw [if_pos c5] at H; have c5b0 : decide (0 ≤ x5_1) = true := decide_eq_true c5; clear c5; by_cases c6 : x5_1 < (l1.length : Int)
      ·rw [if_pos c6] at H; have c6b0 : decide (x5_1 < (l1.length : Int)) = true := decide_eq_true c6; clear c6; by_cases c7 : (rd l0 x5_1) = (rd l1 x5_1)
       ·rw [if_pos c7] at H; have c7b0 : ((rd l0 x5_1) == (rd l1 x5_1)) = true := beq_iff_eq.mpr c7; have c7b1 : ((rd l0 x5_1) != (rd l1 x5_1)) = false := bne_eq_false_iff_eq.mpr c7; clear c7; have H' := aa H; clear H; have p362 : 0 ≤ (x5_1 : Int) := of_decide_eq_true (by first | (with_reducible assumption) | assumption); have q362 : x5_1 < (l0.length : Int) := of_decide_eq_true (by first | (with_reducible assumption) | assumption); obtain ⟨ad362, e362, hx362_0⟩ := ax HR0.out x5_1 p362 q362
        cases e362
        replace p362 := eq_true p362; replace q362 := eq_true q362; have p363 : 0 ≤ (x5_1 : Int) := of_decide_eq_true (by first | (with_reducible assumption) | assumption); have q363 : x5_1 < (l1.length : Int) := of_decide_eq_true (by first | (with_reducible assumption) | assumption); obtain ⟨ad363, e363, hx363_0⟩ := ax HR1.out x5_1 p363 q363
        cases e363
        replace p363 := eq_true p363; replace q363 := eq_true q363; go_wp2; (repeat (go_quiet (fail); try go_wp2)); go_roundg k1
        case measure => have := HK1.out; omega
        case rel => exact ⟨(wrap64 (x5_1 + 1)), (by first | rfl | (simp; done) | (simp [*]; done)), H', ⟨by have := HK1.out; omega⟩, by repeat (first | exact Drawn0.refl _ | apply Drawn0.step)⟩
       ·rw [if_neg c7] at H; have c7b0 : ((rd l0 x5_1) == (rd l1 x5_1)) = false := beq_eq_false_iff_ne.mpr c7; have c7b1 : ((rd l0 x5_1) != (rd l1 x5_1)) = true := bne_iff_ne.mpr c7; obtain rfl := Option.some.inj H; have p362 : 0 ≤ (x5_1 : Int) := of_decide_eq_true (by first | (with_reducible assumption) | assumption); have q362 : x5_1 < (l0.length : Int) := of_decide_eq_true (by first | (with_reducible assumption) | assumption); obtain ⟨ad362, e362, hx362_0⟩ := ax HR0.out x5_1 p362 q362
        cases e362
        replace p362 := eq_true p362; replace q362 := eq_true q362; have p363 : 0 ≤ (x5_1 : Int) := of_decide_eq_true (by first | (with_reducible assumption) | assumption); have q363 : x5_1 < (l1.length : Int) := of_decide_eq_true (by first | (with_reducible assumption) | assumption); obtain ⟨ad363, e363, hx363_0⟩ := ax HR1.out x5_1 p363 q363
        cases e363
        replace p363 := eq_true p363; replace q363 := eq_true q363; go_wp2; (repeat (go_quiet (fail); try go_wp2)); go_ret; exact ⟨by first | rfl | (simp; done) | (simp [*]; done), by repeat (first | exact Drawn0.refl _ | apply Drawn0.step)⟩
      ·rw [if_neg c6] at H; exact absurd H (by simp)
     ·rw [if_neg c5] at H; exact absurd H (by simp)
    ·rw [if_neg c4] at H; have c4b0 : decide (x5_1 < (l0.length : Int)) = false := decide_eq_false c4; clear c4; obtain rfl := Option.some.inj H; go_wp2; (repeat (go_quiet (fail); try go_wp2)); go_ret; exact ⟨by first | rfl | (simp; done) | (simp [*]; done), by repeat (first | exact Drawn0.refl _ | apply Drawn0.step)⟩
 ·rw [if_neg c3] at H; have c3b0 : ((l0.length : Int) == (l1.length : Int)) = false := beq_eq_false_iff_ne.mpr c3; have c3b1 : ((l0.length : Int) != (l1.length : Int)) = true := bne_iff_ne.mpr c3; (have c3b2 : (l0.length == l1.length) = false := by first | simpa using c3 | (simp at c3 ⊢; omega)); obtain rfl := Option.some.inj H; go_enter Tryz.func24, Tryz.ntmps24; go_wp2; (repeat (go_quiet (fail); try go_wp2)); go_ret; exact ⟨by first | rfl | (simp; done) | (simp [*]; done), by repeat (first | exact Drawn0.refl _ | apply Drawn0.step)⟩
def spec_l00Own.f (l0 : List Int) : Option (List Int) := (some (([] : List Int) : List Int)).bind fun y364 => (if y364.length + l0.length < 17592186044416 then (some (y364 ++ l0)) else (none))
set_option maxHeartbeats 8000000 in
set_option maxRecDepth 100000 in
theorem spec_l00Own.calls (A0 : Option Addr) (c0 : Nat) (l0 : List Int) (r : List Int) (w : World) (hr0 : Kd.C (Kd.int .i64) w A0 l0.length l0) (hc0 : l0.length ≤ c0) (h : spec_l00Own.f l0 = some r) :
  Calls Tryz.prog 96 #[.slice A0 l0.length c0] w fun e w' => ∃ v0_ : Value, e = .returned (v0_) ∧ Kd.R (Kd.int .i64) 2 w' w.heap.size (fun _ => True) v0_ r ∧ Below w.heap.size w w' := by
 have HR0 := aa hr0; have HC0 := aa hc0; clear hr0 hc0; have HB := aa (Below.refl w.heap.size w); have H : ((some (([] : List Int) : List Int)).bind fun y364 => (if y364.length + l0.length < 17592186044416 then (some (y364 ++ l0)) else (none))) = some r := h; clear h; obtain ⟨y364, hy364⟩ : ∃ y_ : List Int, y_ = (([] : List Int)) := ⟨_, rfl⟩; (replace H : (if y364.length + l0.length < 17592186044416 then (some (y364 ++ l0)) else (none)) = some r := by first | (rw [hy364]; with_reducible exact H) | (have H2_ := (b6 _ _).symm.trans H; rw [hy364]; with_reducible exact H2_) | (have H2_ := (b6 _ _).symm.trans H; with_reducible exact H2_) | with_reducible exact H | (rw [hy364]; exact H) | exact H); have Ny364 := aa hy364; clear hy364; by_cases c2 : y364.length + l0.length < 17592186044416
 ·rw [if_pos c2] at H; have LMc2 := aa c2; clear c2; obtain ⟨y367, hy367⟩ : ∃ y_ : List Int, y_ = (y364 ++ l0) := ⟨_, rfl⟩; (replace H : (some y367) = some r := by first | (rw [hy367]; with_reducible exact H) | (have H2_ := (b6 _ _).symm.trans H; rw [hy367]; with_reducible exact H2_) | (have H2_ := (b6 _ _).symm.trans H; with_reducible exact H2_) | with_reducible exact H | (rw [hy367]; exact H) | exact H); have Ny367 := aa hy367; clear hy367; obtain rfl := Option.some.inj H; go_enter Tryz.func96, Tryz.ntmps96
  go_wp2_with (first | ((with_reducible refine az (N := 3) rfl ?_); refine Kd.R_lit (Kd.int .i64) _ 2 ?hg (N := 3) ?hd (xs := ([] : List Int)) (inner := []) (ok := fun _ => True) (okp := fun _ => True) ?hr ?hp (fun _ hk => hk) trivial (Below.refl _ _) (Nat.le_refl _) (by simp) ?_; (case hd => rfl); (case hg => rfl); (case hr => first | (go_simp; done) | (go_simp; rfl)); (case hp => exact (Reps.none _ _)); intro v365 w3 ho4 hb hg_ hnew_; clear hg_ hnew_; (first | rw [← Ny364.out] at ho4 | (simp only [Int.reduceToNat] at ho4; rw [← Ny364.out] at ho4)); have n0_ := aa (bd ho4 (al (by repeat (first | (with_reducible first | exact HB.out | apply ae | apply ab | apply ac) | exact HB.out)))); have n1_ := aa (af (by repeat (first | (with_reducible first | exact HB.out | apply ae | apply ab | apply ac) | exact HB.out)) hb); clear HB; have HO366 := n0_; have HB := n1_; clear n0_ n1_; clear hb ho4) | ((with_reducible refine gate_builtin (b := .append) (xs := #[.tmp 3, .tmp 4]) rfl ?_); at_builtin; refine Kd.R_append_rows (Kd.int .i64) (w0 := w) w.heap.size rfl (.tmp 3) (.tmp 4) 27 2 (.int .i64 0) 8 rfl Tryz.underlying27 info2 rfl (by decide) (by omega) v365 y364 l0 _ _ _ (fun _ => True) (fun _ => False) rfl rfl ?aO ?aR (fun _ _ h => h) (fun _ h => h.elim) ?aF ?aB ?aS ?aL ?_; (case aR => repeat (first | exact (ay HR0.out HB.out) | (with_reducible refine ar ?_ _) | (with_reducible refine au ?_ _) | (with_reducible refine av ?_))); (case aB => exact (by repeat (first | (with_reducible first | exact HB.out | apply ae | apply ab | apply ac) | exact HB.out))); (case aF => exact (fun _ _ => trivial)); (case aO => exact (by (with_reducible repeat (first | apply ah | apply ag | apply ai)); exact HO366.out)); (case aS => exact (al (by repeat (first | (with_reducible first | exact HB.out | apply ae | apply ab | apply ac) | exact HB.out)))); (case aL => have := LMc2.out; omega); intro v368 w5 ho hb hg hat; rw [← Ny367.out] at ho; have n0_ := aa (hb); have n1_ := aa (ho); clear HB; clear HO366; have HB := n0_; have HO369 := n1_; clear n0_ n1_; clear ho hb hg hat))
  go_ret; exact ⟨_, by first | rfl | (simp [errW_none, errW_some] <;> rfl) | (simp [*, errW_none, errW_some] <;> rfl), by (with_reducible repeat (first | apply ah | apply ag | apply ai)); exact HO369.out, by repeat (first | (with_reducible first | exact HB.out | apply ae | apply ab | apply ac) | exact HB.out)⟩
 ·rw [if_neg c2] at H; exact absurd H (by simp)
theorem append_ab {P : Program} {ops : Array Oper} {rest : List Oper} {o : Oper} {a : Act} {Q : Exit → Act → World → Prop} {w0 W : World} (base : Nat) (hgd : o.guard = none) (s x : Operand) (t e : TypeId) (z : Value) (bytes : Nat)
  (ho : o.op = .call { callee := .builtin .append, args := #[s, x], argTypes := #[t, t] })
  (ht : P.underlying t = some (.slice e)) (hinfo : (P.info? e).map (fun i => (i.zero, i.size, i.bytes)) = some (some z, 1, bytes)) (hz : z.cells.size = 1) (hb0 : 0 < bytes)
  (v : Value) (n : Nat) (xs : List Value) (y : Value) (hs : a.eval s = v) (hx : a.eval x = .slice (some ⟨W.heap.size, 0, none⟩) 1 1) (h1 : y.oneCell' = true)
  (HO : W.ownsRow base e 1 v n xs) (HB : Below base w0 W) (hbase : base ≤ W.heap.size) (hl : (n + 1) * bytes ≤ 140737488355328)
  (h : ∀ v1 w1, w1.ownsRow base e 1 v1 (n + 1) (xs ++ [y]) → Below base w0 w1 → ((W.grownBy w1 none ∧ ∃ b, v1.ownBlock = some b ∧ W.heap.size ≤ b) ∨ (W.grownBy w1 v.ownBlock ∧ ∃ b cap, v = .slice (some ⟨b, 0, none⟩) n cap ∧ v1 = .slice (some ⟨b, 0, none⟩) (n + 1) cap)) → wpList P ops Q rest (a.put o.dst v1) w1) :
  wpList P ops Q (o :: rest) a (W.alloc (.cells #[y] e)) := by
 obtain ⟨i0, hi, hzz⟩ := Option.map_eq_some_iff.1 hinfo; simp only [Prod.mk.injEq] at hzz; obtain ⟨hz0, hz1, hz2⟩ := hzz; subst hz2; have hlen : n + 1 ≤ 140737488355328 := Nat.le_trans (Nat.le_mul_of_pos_right _ hb0) hl
 have hnews : ∀ j u, [y][j]? = some u → (W.alloc (.cells #[y] e)).cell? ((⟨W.heap.size, 0, none⟩ : Addr).add j) = some u := by
  simpa using World.news_of_block (cs := #[y]) (t := e) (fr := (0, 0)) (heap_alloc_new W (.cells #[y] e))
 (have hone : ∀ u ∈ [y], u.oneCell' = true := fun u hu => by obtain rfl := List.mem_singleton.1 hu; exact h1); have HO2 := HO.alloc (.cells #[y] e); (have hm : n + 1 ≤ maxLen := by simp only [maxLen]; omega); have hga := World.grownBy_alloc W (.cells #[y] e) none; obtain ⟨v1, w1, hr, hown, hg, _⟩ := run_append_own (P := P) (W.alloc (.cells #[y] e)) base t o.type e i0 z 1 i0.bytes ht hi hz0 hz1 rfl hz (by omega) v n xs HO2 ⟨W.heap.size, 0, none⟩ 1 1 [y] rfl hnews hone hm hl (by simp; omega); have hbel : Below base w0 w1 := (HB.alloc hbase _).grown hg (by simp; omega) (own_base HO); (refine wpList_plain hgd fun _ hK => ?_); unfold Oper.wp execOp; simp only [ho, resolve, invoke, builtin, Sem.run_bind, Sem.run_pure, Result.andThen_ok, b3, b4, b5, hs, hx, hr]; refine hK _ _ (h v1 w1 hown hbel ?_)
 have fresh : ∀ (c : List Value) (cap : Nat), (Builtin.append_ #[t, t] o.type #[v, .slice (some ⟨W.heap.size, 0, none⟩) 1 1]).run P (W.alloc (.cells #[y] e)) = .ok (.slice (some ⟨(W.alloc (.cells #[y] e)).heap.size, 0, none⟩) (n + 1) cap) ((W.alloc (.cells #[y] e)).drew.alloc (.cells c.toArray e)) → (W.grownBy w1 none ∧ ∃ b, v1.ownBlock = some b ∧ W.heap.size ≤ b) := by
  intro c cap hr2; rw [hr] at hr2; injection hr2 with e1 e2; subst e1; subst e2; exact ⟨World.grownBy.trans hga ⟨rfl, rfl, rfl, by simp, fun k hk _ => heap_alloc_old (W.alloc (.cells #[y] e)).drew _ hk⟩, _, rfl, by simp⟩
 rcases HO2.2 with ⟨rfl, rfl⟩ | ⟨g, cap, cur, rfl, hbg, hgc, hnc, hcm, hcs, htake⟩
 ·have hr2 := run_append_nil (P := P) (W.alloc (.cells #[y] e)) t o.type e i0 z ht hi hz0 ⟨W.heap.size, 0, none⟩ 1 1 [y] (by rw [hz1]; rfl) hnews (by omega) (by omega) (by rw [Nat.zero_add] at hl; omega); exact .inl (fresh _ _ (by rw [hr2]))
 ·by_cases hroom : n + 1 ≤ cap
  ·have hr2 := run_append_room (P := P) (W.alloc (.cells #[y] e)) t o.type e i0 ht hi g n cap cur hgc ⟨W.heap.size, 0, none⟩ 1 1 [y] (by rw [hz1]; rfl) hnews hone hroom (by rw [hz1]; simp only [List.length_singleton]; omega); rw [hr] at hr2; injection hr2 with e1 e2; exact .inr ⟨World.grownBy.trans (World.grownBy_alloc W (.cells #[y] e) _) hg, g, cap, rfl, e1⟩
  ·have holds : ∀ j u, xs[j]? = some u → (W.alloc (.cells #[y] e)).cell? ((⟨g, 0, none⟩ : Addr).add j) = some u := HO2.cells (g := g) rfl; have hr2 := run_append_grow (P := P) (W.alloc (.cells #[y] e)) t o.type e i0 z ht hi hz0 ⟨g, 0, none⟩ n cap xs (by rw [hz1]; exact HO2.1) holds ⟨W.heap.size, 0, none⟩ 1 1 [y] (by rw [hz1]; rfl) hnews (by omega) (by omega) (growslice_fits (by omega) hl); exact .inl (fresh _ _ (by rw [hr2]))
def WS (w0 W : World) (g : Nat) (n : Int) (L : List S82) (m : Int) (vF : Value) (fnd : Bool) : Prop := ∃ AL lc, W.heap[g]? = some (.cells #[.int .i64 n, .slice AL L.length lc, .int .i64 m, vF, .bool fnd] 95 (0, 0)) ∧ w0.heap.size ≤ g ∧ Kd.C k82 w0 AL L.length L ∧ Below w0.heap.size w0 W
theorem WS.below {w0 W W1 : World} {g : Nat} {n m : Int} {L : List S82} {vF : Value} {fnd : Bool} (h : WS w0 W g n L m vF fnd) (hb : Below W.heap.size W W1) : WS w0 W1 g n L m vF fnd := by
 obtain ⟨AL, lc, h1, h2, h3, h4⟩ := h; exact ⟨AL, lc, ba h1 hb, h2, h3, below_then h4 h4.size hb⟩
theorem WS.drewN {w0 W : World} {g : Nat} {n m : Int} {L : List S82} {vF : Value} {fnd : Bool} (h : WS w0 W g n L m vF fnd) (q : Nat) : WS w0 (W.drewN q) g n L m vF fnd := h.below (ab (Below.refl _ _) q)
theorem WS.opened {w0 W : World} {g : Nat} {n m : Int} {L : List S82} {vF : Value} {fnd : Bool} (h : WS w0 W g n L m vF fnd) : ∃ (AL : Option Addr) (lc : Nat), W.cell? ⟨g, 0, none⟩ = some (.int .i64 n) ∧ W.cell? ⟨g, 1, none⟩ = some (.slice AL L.length lc) ∧ W.cell? ⟨g, 2, none⟩ = some (.int .i64 m) ∧ W.cell? ⟨g, 3, none⟩ = some vF ∧ W.cell? ⟨g, 4, none⟩ = some (.bool fnd) ∧ W.frozen? ⟨g, 3, none⟩ = false ∧ W.frozen? ⟨g, 4, none⟩ = false ∧ Aside0 (Kd.C k82 W AL L.length L) := by
 obtain ⟨AL, lc, h1, h2, h3, h4⟩ := h; exact ⟨AL, lc, (ap h1 0).trans rfl, (ap h1 1).trans rfl, (ap h1 2).trans rfl, (ap h1 3).trans rfl, (ap h1 4).trans rfl, ao h1 3, ao h1 4, ⟨ay h3 h4⟩⟩
theorem WS.found {w0 W : World} {g : Nat} {n m : Int} {L : List S82} {vF : Value} {fnd : Bool} (h : WS w0 W g n L m vF fnd) (vN : Value) : WS w0 ((W.setCell ⟨g, 3, none⟩ vN).setCell ⟨g, 4, none⟩ (.bool true)) g n L m vN true := by
 obtain ⟨AL, lc, h1, h2, h3, h4⟩ := h; exact ⟨AL, lc, blk_put (blk_put h1 3 _ rfl) 4 _ rfl, h2, h3, (h4.setCell h2 _).setCell h2 _⟩
theorem WS.grown {w0 W W1 : World} {g : Nat} {n m : Int} {L : List S82} {vF : Value} {fnd : Bool} (h : WS w0 W g n L m vF fnd) {row : Option Nat} (hg : W.grownBy W1 row) (hr : some g ≠ row) (hb : Below w0.heap.size w0 W1) : WS w0 W1 g n L m vF fnd := by
 obtain ⟨AL, lc, h1, h2, h3, h4⟩ := h; exact ⟨AL, lc, blk_grown h1 hg hr, h2, h3, hb⟩
def fr_loop : Nat → List S82 → List Int → Int → Int → Option Bool
 | 0, _, _, _, _ => none
 | k + 1, L, cs, x, i => if i < (L.length : Int) then (if 0 ≤ i then (if (rd_T82 L i).f1 = (cs.length : Int) then (if 0 ≤ (rd_T82 L i).f0 then (if (rd_T82 L i).f0 < (cs.length : Int) then (if rd cs (rd_T82 L i).f0 = x then some false else fr_loop k L cs x (wrap64 (i + 1))) else none) else none) else fr_loop k L cs x (wrap64 (i + 1))) else none) else some true
theorem fr_mono : ∀ k, ∀ L cs x i, LeO (fr_loop k L cs x i) (fr_loop (k + 1) L cs x i)
 | 0 => fun _ _ _ _ r h => by simp [fr_loop] at h
 | k + 1 => by
  have i1 := fr_mono k; intro L cs x i; rw [fr_loop, fr_loop]
  repeat' first
   | (with_reducible exact i1 _ _ _ _)
   | (with_reducible exact LeO.refl _)
   | (with_reducible refine LeO.ite ?_ ?_)
set_option maxRecDepth 100000 in
set_option maxHeartbeats 8000000 in
theorem fr_calls (w0 : World) (g : Nat) (n m : Int) (L : List S82) (vF : Value) (fnd : Bool) (k : Nat) (cs : List Int) (x : Int) (r : Bool) (W : World) (A : Option Addr) (c : Nat) (hW : WS w0 W g n L m vF fnd) (hC : Kd.C (Kd.int .i64) W A cs.length cs) (h : fr_loop k L cs x 0 = some r) :
  Calls Tryz.prog 97 #[.pointer (some ⟨g, 0, none⟩), .slice A cs.length c, .int .i64 x] W fun e w' => e = .returned (.bool r) ∧ ∃ nd, w' = W.drewN nd := by
 obtain ⟨AL, lc, z0, z1, z2, z3, z4, f3, f4, HL⟩ := hW.opened; have H := aa h; have HC := aa hC; clear h hC hW; go_enter Tryz.func97, Tryz.ntmps97; go_wp2
 go_loopg [8] k (fun kq v8 w' => ∃ i : Int, v8 = .int .i64 i ∧ Aside0 (fr_loop kq L cs x i = some r) ∧ ∃ q, w' = W.drewN q)
 case atStart => exact ⟨0, rfl, H, 0, rfl⟩
 case round =>
  clear H; obtain ⟨i, rfl, HA, q, rfl⟩ := hrel
  cases gk with
  | zero => exact absurd HA.out (by simp [fr_loop])
  | succ k2 =>
   have h := HA.out; clear HA; simp only [fr_loop] at h; by_cases c5 : i < (L.length : Int)
   ·rw [if_pos c5] at h; by_cases c6 : 0 ≤ i
    ·rw [if_pos c6] at h; obtain ⟨ad, hA, hx0, hx1⟩ := at_T82 HL.out i c6 c5
     cases hA
     have p5 : decide (i < (L.length : Int)) = true := decide_eq_true c5; have q5 := eq_true c5; have q6 := eq_true c6; by_cases c7 : (rd_T82 L i).f1 = (cs.length : Int)
     ·rw [if_pos c7] at h; (have p7 : ((rd_T82 L i).f1 == (cs.length : Int)) = true := by simp [c7]); by_cases c8 : 0 ≤ (rd_T82 L i).f0
      ·rw [if_pos c8] at h; by_cases c9 : (rd_T82 L i).f0 < (cs.length : Int)
       ·rw [if_pos c9] at h; obtain ⟨ad2, hA2, hy⟩ := ax HC.out (rd_T82 L i).f0 c8 c9
        cases hA2
        have q8 := eq_true c8; have q9 := eq_true c9; by_cases c10 : rd cs (rd_T82 L i).f0 = x
        ·rw [if_pos c10] at h; (have p10 : (rd cs (rd_T82 L i).f0 == x) = true := by simp [c10]); obtain rfl := Option.some.inj h; clear h c5 c6 c7 c8 c9 c10; generalize rd_T82 L i = z at *; go_wp2; go_ret; exact ⟨rfl, _, rfl⟩
        ·rw [if_neg c10] at h; (have p10 : (rd cs (rd_T82 L i).f0 == x) = false := by simp [c10]); have H := aa h; clear h c5 c6 c7 c8 c9 c10; generalize rd_T82 L i = z at *; go_wp2; go_roundg k2
         case measure => omega
         case rel => exact ⟨_, rfl, H, _, rfl⟩
       ·rw [if_neg c9] at h; cases h
      ·rw [if_neg c8] at h; cases h
     ·rw [if_neg c7] at h; (have p7 : ((rd_T82 L i).f1 == (cs.length : Int)) = false := by simp [c7]); have H := aa h; clear h c5 c6 c7; generalize rd_T82 L i = z at *; go_wp2; go_roundg k2
      case measure => omega
      case rel => exact ⟨_, rfl, H, _, rfl⟩
    ·rw [if_neg c6] at h; cases h
   ·rw [if_neg c5] at h; have p5 : decide (i < (L.length : Int)) = false := decide_eq_false c5; obtain rfl := Option.some.inj h; clear h c5; go_wp2; go_ret; exact ⟨rfl, _, rfl⟩
mutual
def lf_walk : Nat → Int → List S82 → Int → List Int → Option (List Int × Bool)
 | 0, _, _, _, _ => none
 | k + 1, n, l, m, cs => if (cs.length : Int) = n then ((spec_l00Own.f cs).bind fun y => some (y, true)) else lf_loop k n l m cs 0
def lf_loop : Nat → Int → List S82 → Int → List Int → Int → Option (List Int × Bool)
 | 0, _, _, _, _, _ => none
 | k + 1, n, l, m, cs, c => if c < m then ((fr_loop k l cs c 0).bind fun ok => if ok = true then (if cs.length < 1000 then ((lf_walk k n l m (cs ++ [c])).bind fun r => if r.2 = true then some r else lf_loop k n l m cs (wrap64 (c + 1))) else none) else lf_loop k n l m cs (wrap64 (c + 1))) else some ([], false)
end
theorem lf_mono : ∀ k, (∀ n l m cs, LeO (lf_walk k n l m cs) (lf_walk (k + 1) n l m cs)) ∧ (∀ n l m cs c, LeO (lf_loop k n l m cs c) (lf_loop (k + 1) n l m cs c))
 | 0 => ⟨fun _ _ _ _ r h => by simp [lf_walk] at h, fun _ _ _ _ _ r h => by simp [lf_loop] at h⟩
 | k + 1 => by
  obtain ⟨i1, i2⟩ := lf_mono k; constructor
  ·intro n l m cs; rw [lf_walk, lf_walk]
   repeat' first
    | (with_reducible exact i2 _ _ _ _ _)
    | (with_reducible exact LeO.refl _)
    | (with_reducible refine LeO.ite ?_ ?_)
  ·intro n l m cs c; rw [lf_loop, lf_loop]
   repeat' first
    | (with_reducible exact i1 _ _ _ _)
    | (with_reducible exact i2 _ _ _ _ _)
    | (with_reducible exact fr_mono _ _ _ _ _)
    | (with_reducible exact LeO.refl _)
    | (with_reducible refine LeO.ite ?_ ?_)
    | (with_reducible refine LeO.bind ?_ (fun _ => ?_))
def WEnd (w0 W w' : World) (g : Nat) (n : Int) (L : List S82) (m : Int) (A : Option Addr) (c : Nat) (cs : List Int) (r : List Int × Bool) : Prop := (∃ vF, WS w0 w' g n L m vF r.2 ∧ ((r.2 = false ∧ r.1 = [] ∧ vF = .slice none 0 0) ∨ (r.2 = true ∧ Kd.R (Kd.int .i64) 2 w' w0.heap.size (fun k => k ≠ g) vF r.1))) ∧ Kd.R (Kd.int .i64) 2 w' w0.heap.size (fun k => k ≠ g) (.slice A cs.length c) cs ∧ KeepBut W w' g (Value.slice A cs.length c).ownBlock
theorem lf_back {w0 w1 w2 w3 : World} {g : Nat} {A A1 : Option Addr} {c c1 : Nat} {cs : List Int} {x : Int} (hR : Kd.R (Kd.int .i64) 2 w1 w0.heap.size (fun k => k ≠ g) (.slice A cs.length c) cs) (hab : (w1.grownBy w2 none ∧ ∃ b, (Value.slice A1 (cs.length + 1) c1).ownBlock = some b ∧ w1.heap.size ≤ b) ∨ (w1.grownBy w2 (Value.slice A cs.length c).ownBlock ∧ ∃ b cap, Value.slice A cs.length c = .slice (some ⟨b, 0, none⟩) cs.length cap ∧ Value.slice A1 (cs.length + 1) c1 = .slice (some ⟨b, 0, none⟩) (cs.length + 1) cap))
  (hR3 : Kd.R (Kd.int .i64) 2 w3 w0.heap.size (fun k => k ≠ g) (.slice A1 (cs.length + 1) c1) (cs ++ [x])) (hk : KeepBut w2 w3 g (Value.slice A1 (cs.length + 1) c1).ownBlock) : Kd.R (Kd.int .i64) 2 w3 w0.heap.size (fun k => k ≠ g) (.slice A cs.length c) cs ∧ KeepBut w1 w3 g (Value.slice A cs.length c).ownBlock := by
 have hlt := Kd.R_lt hR; rcases hab with ⟨hg, b, hb, hb2⟩ | ⟨hg, b, cap, e1, e2⟩
 ·rw [hb] at hk; have hk2 : KeepBut w1 w3 g none := (KeepBut.of_grown hg g).trans hk (.inr ⟨b, rfl, hb2⟩); exact ⟨Kd.R_keep hR hk2 (fun _ h => h), hk2.1, fun i hi h1 _ => hk2.2 i hi h1 (by simp)⟩
 ·have hR4 := Kd.R_take (m := cs.length) (by rw [e2] at hR3; exact hR3) (by simp); rw [List.take_left' rfl, ← e1] at hR4; refine ⟨hR4, (KeepBut.of_grown hg g).trans hk (.inl ?_)⟩; rw [e1, e2]; rfl
theorem lf_app {w0 w1 w2 : World} {g : Nat} {n m : Int} {L : List S82} {vF : Value} {fnd : Bool} {A : Option Addr} {c : Nat} {cs : List Int} {x : Int} {v1 : Value} (hW : WS w0 w1 g n L m vF fnd) (hR : Kd.R (Kd.int .i64) 2 w1 w0.heap.size (fun k => k ≠ g) (.slice A cs.length c) cs) (ho : w2.ownsRow w0.heap.size 2 1 v1 (cs.length + 1) (encs (Value.int .i64) cs ++ [.int .i64 x])) (hb : Below w0.heap.size w0 w2)
  (hab : (w1.grownBy w2 none ∧ ∃ b, v1.ownBlock = some b ∧ w1.heap.size ≤ b) ∨ (w1.grownBy w2 (Value.slice A cs.length c).ownBlock ∧ ∃ b cap, Value.slice A cs.length c = .slice (some ⟨b, 0, none⟩) cs.length cap ∧ v1 = .slice (some ⟨b, 0, none⟩) (cs.length + 1) cap)) :
  ∃ A1 c1, v1 = .slice A1 (cs.length + 1) c1 ∧ Kd.R (Kd.int .i64) 2 w2 w0.heap.size (fun k => k ≠ g) (.slice A1 (cs.length + 1) c1) (cs ++ [x]) ∧ WS w0 w2 g n L m vF fnd := by
 have hgs : g < w1.heap.size := by obtain ⟨_, _, h1, _⟩ := hW; exact blk_lt h1
 have hok : ∀ k, v1.ownBlock = some k → k ≠ g := by
  intro k hk e; subst e; rcases hab with ⟨_, b, hb, hb2⟩ | ⟨_, b, cap, e1, e2⟩
  ·rw [hb] at hk; have := Option.some.inj hk; omega
  ·refine hR.1 k ?_ rfl; rw [e1]; rw [e2] at hk; exact hk
 have hR2 : Kd.R (Kd.int .i64) 2 w2 w0.heap.size (fun k => k ≠ g) v1 (cs ++ [x]) := Kd.R_of_own (by rw [List.length_append, List.length_singleton]; simpa [encs] using ho) hok; obtain ⟨A1, c1, rfl, _, _⟩ := Kd.R_reads hR2; rw [List.length_append, List.length_singleton] at hR2; refine ⟨A1, c1, by rw [List.length_append, List.length_singleton], hR2, ?_⟩; rcases hab with ⟨hg, _⟩ | ⟨hg, _⟩
 ·exact hW.grown hg (by simp) hb
 ·exact hW.grown hg (fun e => hR.1 g e.symm rfl) hb
theorem WS.bel {w0 W : World} {g : Nat} {n m : Int} {L : List S82} {vF : Value} {fnd : Bool} (h : WS w0 W g n L m vF fnd) : Below w0.heap.size w0 W := by obtain ⟨_, _, _, _, _, h⟩ := h; exact h
set_option maxRecDepth 100000 in
set_option maxHeartbeats 8000000 in
theorem lf_calls (w0 : World) (g : Nat) (n m : Int) (L : List S82) : ∀ (k : Nat) (cs : List Int) (r : List Int × Bool) (W : World) (A : Option Addr) (c : Nat), WS w0 W g n L m (.slice none 0 0) false → Kd.R (Kd.int .i64) 2 W w0.heap.size (fun k => k ≠ g) (.slice A cs.length c) cs → lf_walk k n L m cs = some r →
  Calls Tryz.prog 85 #[.pointer (some ⟨g, 0, none⟩), .slice A cs.length c] W fun e w' => e = .returned (.tuple #[]) ∧ WEnd w0 W w' g n L m A c cs r := by
 intro k
 induction k using Nat.strongRecOn with
 | ind k ih =>
 intro cs r W A c hW hR h
 cases k with
 | zero => exact absurd h (by simp [lf_walk])
 | succ k =>
  simp only [lf_walk] at h; obtain ⟨hcn, hcc, hC⟩ := aw hR; have HW := aa hW; have HR := aa hR; have HC := aa hC; have HCC := aa hcc; obtain ⟨AL, lc, z0, z1, z2, z3, z4, f3, f4, HL⟩ := hW.opened; clear hW hR hC hcn hcc; by_cases c0 : (cs.length : Int) = n
  ·rw [if_pos c0] at h; obtain ⟨y, hy, h⟩ := bf.mp h; obtain rfl := Option.some.inj h; have HY := aa hy; (have c0b : ((cs.length : Int) == n) = true := by simp [c0]); clear h hy c0 ih; go_enter Tryz.func85, Tryz.ntmps85
   go_wp2_with (go_at_call 96; refine (spec_l00Own.calls _ _ cs y _ HC.out HCC.out HY.out).mono ?_; rintro e_ w2 ⟨vN, rfl, hN, hb2⟩; obtain ⟨AN, cN, rfl, _, _⟩ := Kd.R_reads hN; have HN := aa hN; have HB2 := aa hb2; have HW2 := aa (HW.out.below hb2); clear hN hb2 z0 z1 z2 z3 z4 f3 f4; obtain ⟨AL2, lc2, z0, z1, z2, z3, z4, f3, f4, HL2⟩ := HW2.out.opened)
   refine bodyPost_ret (results_none rfl _ _ _) rfl ?_; obtain ⟨_, _, g1, g2, _, g4⟩ := HW.out; have hn : Kd.R (Kd.int .i64) 2 w2 w0.heap.size (fun k => k ≠ g) (.slice AN y.length cN) y := bc (bd (Kd.R_newB HN.out g1) g4.size) (fun k hk => hk.2); exact ⟨rfl, ⟨_, HW2.out.found _, .inr ⟨rfl, Kd.R_far (Kd.R_far hn (fun k hk => hk) _) (fun k hk => hk) _⟩⟩, Kd.R_far (Kd.R_far (be HR.out HB2.out) (fun k hk => hk) _) (fun k hk => hk) _, KeepBut.set_ (KeepBut.set_ (KeepBut.of_below HB2.out g _) 3 _) 4 _⟩
  ·rw [if_neg c0] at h; (have c0b : ((cs.length : Int) == n) = false := by simp [c0]); have IH := aa ih; have H := aa h; clear h ih c0; go_enter Tryz.func85, Tryz.ntmps85; go_wp2; clear z0 z1 z2 z3 z4 f3 f4 c0b
   go_loopg [4] k (fun kq v4 w' => ∃ x : Int, v4 = .int .i64 x ∧ Aside0 (kq ≤ k) ∧ Aside0 ((lf_loop kq n L m cs x = some r ∧ WS w0 w' g n L m (.slice none 0 0) false ∧ Kd.R (Kd.int .i64) 2 w' w0.heap.size (fun k => k ≠ g) (.slice A cs.length c) cs ∧ KeepBut W w' g (Value.slice A cs.length c).ownBlock) ∨ (WEnd w0 W w' g n L m A c cs r ∧ r.2 = true)))
   case atStart => exact ⟨0, rfl, ⟨Nat.le_refl _⟩, ⟨.inl ⟨H.out, HW.out, HR.out, KeepBut.refl _ _ _⟩⟩⟩
   case round =>
    clear H HW HR HC HL; obtain ⟨x, rfl, HK, HD⟩ := hrel; rcases HD.out with ⟨hA, hW, hR, hK⟩ | ⟨hE, hr2⟩
    case inr =>
     clear HD; obtain ⟨⟨vF, hW, hvF⟩, hR, hK⟩ := hE; rw [hr2] at hW; obtain ⟨AL, lc, z0, z1, z2, z3, z4, f3, f4, HL⟩ := hW.opened; have HE := aa (show WEnd w0 W _ g n L m A c cs r from ⟨⟨vF, by rw [hr2]; exact hW, hvF⟩, hR, hK⟩); clear hvF hR hK hW hr2; by_cases c5 : x < m
     ·have c5b : decide (x < m) = true := decide_eq_true c5; clear c5; go_wp2; (first | go_end0 | (simp only [Exit.inBlock, Exit.then]; refine bodyPost_ret (results_none rfl _ _ _) rfl ?_) | trace_state); exact ⟨rfl, HE.out⟩
     ·have c5b : decide (x < m) = false := decide_eq_false c5; clear c5; go_wp2; (first | go_end0 | (simp only [Exit.inBlock, Exit.then]; refine bodyPost_ret (results_none rfl _ _ _) rfl ?_) | trace_state); exact ⟨rfl, HE.out⟩
    case inl =>
     clear HD
     cases gk with
     | zero => exact absurd hA (by simp [lf_loop])
     | succ k2 =>
      simp only [lf_loop] at hA; obtain ⟨AL, lc, z0, z1, z2, z3, z4, f3, f4, HL⟩ := hW.opened; have HWR := aa hW; have HRR := aa hR; have HKB := aa hK; clear hW hR hK; by_cases c5 : x < m
      ·rw [if_pos c5] at hA; have c5b : decide (x < m) = true := decide_eq_true c5; clear c5; obtain ⟨ok, hok, h⟩ := bf.mp hA; have HFR := aa hok; clear hA hok
       cases ok with
       | false =>
        rw [if_neg (by simp)] at h; have H := aa h; clear h
        go_wp2_with (first | (go_at_call 97; refine (fr_calls w0 g n m L (.slice none 0 0) false k2 cs x false _ A c HWR.out (aw HRR.out).2.2 HFR.out).mono ?_; rintro e_ w1 ⟨rfl, nd, rfl⟩; have HWQ := aa (HWR.out.drewN nd); have HRQ := aa (ag HRR.out nd); clear z0 z1 z2 z3 z4 f3 f4; obtain ⟨AL2, lc2, z0, z1, z2, z3, z4, f3, f4, HL2⟩ := HWQ.out.opened))
        go_roundg k2
        case measure => omega
        case rel => exact ⟨_, rfl, ⟨by have := HK.out; omega⟩, ⟨.inl ⟨H.out, HWQ.out, HRQ.out, HKB.out.trans (KeepBut.of_below (ab (Below.refl _ _) nd) g _) (.inl rfl)⟩⟩⟩
       | true =>
        rw [if_pos rfl] at h; by_cases c6 : cs.length < 1000
        ·rw [if_pos c6] at h; obtain ⟨⟨r2a, r2b⟩, hw, h⟩ := bf.mp h; have HWK := aa hw; have C6 := aa c6; clear hw c6; have H := aa h; clear h
         go_wp2_with (first | (go_at_call 97; refine (fr_calls w0 g n m L (.slice none 0 0) false k2 cs x true _ A c HWR.out (aw HRR.out).2.2 HFR.out).mono ?_; rintro e_ w1 ⟨rfl, nd, rfl⟩; have HWQ := aa (HWR.out.drewN nd); have HRQ := aa (ag HRR.out nd); clear z0 z1 z2 z3 z4 f3 f4; obtain ⟨AL2, lc2, z0, z1, z2, z3, z4, f3, f4, HL2⟩ := HWQ.out.opened) | ((with_reducible refine gate_builtin (b := .append) (xs := #[.tmp 40, .tmp 42]) rfl ?_); at_builtin; refine append_ab (w0 := w0) w0.heap.size rfl (.tmp 40) (.tmp 42) 27 2 (.int .i64 0) 8 rfl Tryz.underlying27 info2 rfl (by decide) (.slice A cs.length c) cs.length (encs (Value.int .i64) cs) (.int .i64 x) rfl rfl rfl (Kd.own_of_R HRQ.out) HWQ.out.bel HWQ.out.bel.size (by have := C6.out; omega) ?_; intro v1 w3 ho hb hab; obtain ⟨A1, c1, rfl, hR3, hW3⟩ := lf_app HWQ.out HRQ.out ho hb hab; have HW3 := aa hW3; have HR3 := aa hR3; have HAB := aa hab; clear ho hb hab hR3 hW3) | (go_at_call 85; have hx := IH.out k2 (by have := HK.out; omega) (cs ++ [x]) (r2a, r2b) _ A1 c1 HW3.out (by rw [show (cs ++ [x]).length = cs.length + 1 from by simp]; exact HR3.out) HWK.out; rw [show (cs ++ [x]).length = cs.length + 1 from by simp] at hx; refine hx.mono ?_; clear hx; rintro e_ w4 ⟨rfl, ⟨vF, hW4, hvF⟩, hR4, hK4⟩; rw [show (cs ++ [x]).length = cs.length + 1 from by simp] at hR4 hK4; obtain ⟨hR5, hK5⟩ := lf_back HRQ.out HAB.out hR4 hK4; have HE := aa (show WEnd w0 W w4 g n L m A c cs (r2a, r2b) from ⟨⟨vF, hW4, hvF⟩, hR5, (HKB.out.trans (KeepBut.of_below (ab (Below.refl _ _) nd) g _) (.inl rfl)).trans hK5 (.inl rfl)⟩); clear hW4 hvF hR4 hK4 hR5 hK5))
         go_roundg k2
         case measure => omega
         case rel =>
          refine ⟨_, rfl, ⟨by have := HK.out; omega⟩, ⟨?_⟩⟩; have h := H.out
          cases r2b with
          | true =>
           rw [if_pos rfl] at h; obtain rfl := Option.some.inj h; exact .inr ⟨HE.out, rfl⟩
          | false =>
           rw [if_neg (by simp)] at h; obtain ⟨⟨vF, hW4, hvF⟩, hR4, hK4⟩ := HE.out; rcases hvF with ⟨_, _, rfl⟩ | ⟨hf, _⟩
           ·exact .inl ⟨h, hW4, hR4, hK4⟩
           ·cases hf
        ·rw [if_neg c6] at h
         cases h
      ·rw [if_neg c5] at hA; have c5b : decide (x < m) = false := decide_eq_false c5; clear c5; obtain rfl := Option.some.inj hA; clear hA; go_wp2; (first | go_end0 | (simp only [Exit.inBlock, Exit.then]; refine bodyPost_ret (results_none rfl _ _ _) rfl ?_) | trace_state); exact ⟨rfl, ⟨_, HWR.out, .inl ⟨rfl, rfl, rfl⟩⟩, HRR.out, HKB.out⟩
theorem WS.start (w : World) (a0 : Int) (A1 : Option Addr) (c1 : Nat) (l1 : List S82) (a2 : Int) (hr1 : Kd.C k82 w A1 l1.length l1) : WS w ((w.alloc (.cells #[.int .i64 a0, .slice A1 l1.length c1, .int .i64 a2, .slice none 0 0, .bool false] 95)).alloc (.cells #[] 2)) w.heap.size a0 l1 a2 (.slice none 0 0) false ∧ Kd.R (Kd.int .i64) 2 ((w.alloc (.cells #[.int .i64 a0, .slice A1 l1.length c1, .int .i64 a2, .slice none 0 0, .bool false] 95)).alloc (.cells #[] 2)) w.heap.size (fun k => k ≠ w.heap.size) (.slice (some ⟨w.heap.size + 1, 0, none⟩) 0 0) [] := by
 have b1 := ae (Below.refl w.heap.size w) (.cells #[.int .i64 a0, .slice A1 l1.length c1, .int .i64 a2, .slice none 0 0, .bool false] 95); (have e1 : (w.alloc (.cells #[.int .i64 a0, .slice A1 l1.length c1, .int .i64 a2, .slice none 0 0, .bool false] 95)).heap.size = w.heap.size + 1 := by show (w.heap.push _).size = _; simp); refine ⟨⟨A1, c1, am (blk_new _ _) _, Nat.le_refl _, hr1, ae b1 _⟩, ?_⟩; have h := World.ownsRow_made (base := w.heap.size) (e := 2) (size := 1) (w.alloc (.cells #[.int .i64 a0, .slice A1 l1.length c1, .int .i64 a2, .slice none 0 0, .bool false] 95)) #[] 0 b1.size (by decide) rfl; rw [e1] at h; exact Kd.R_of_own (xs := []) h (fun k hk => by have := Option.some.inj hk; show k ≠ w.heap.size; simp at this; omega)
def spec_l09First.f (k : Nat) (a0 : Int) (l1 : List S82) (a2 : Int) : Option (List Int × Bool) := lf_walk k a0 l1 a2 []
theorem spec_l09First.mono : ∀ a0 a1 a2 k, LeO (spec_l09First.f k a0 a1 a2) (spec_l09First.f (k + 1) a0 a1 a2) := fun _ _ _ k => (lf_mono k).1 _ _ _ _
set_option maxRecDepth 100000 in
set_option maxHeartbeats 8000000 in
theorem spec_l09First.calls (k : Nat) (a0 : Int) (A1 : Option Addr) (c1 : Nat) (l1 : List S82) (a2 : Int) (r1 : List Int) (r2 : Bool) (w : World) (hr1 : Kd.C k82 w A1 l1.length l1) (hc1 : l1.length ≤ c1) (h : spec_l09First.f k a0 l1 a2 = some (r1, r2)) :
  Calls Tryz.prog 61 #[.int .i64 a0, .slice A1 l1.length c1, .int .i64 a2] w fun e w' => ∃ v0_ : Value, e = .returned (.tuple #[v0_, .bool r2]) ∧ Kd.R (Kd.int .i64) 2 w' w.heap.size (fun _ => True) v0_ r1 ∧ Below w.heap.size w w' := by
 have HW := aa (show lf_walk k a0 l1 a2 [] = some (r1, r2) from h); have HS := aa (WS.start w a0 A1 c1 l1 a2 hr1); clear h hr1 hc1; go_enter Tryz.func61, Tryz.ntmps61
 go_wp2_with (go_at_call 85; refine (lf_calls w w.heap.size a0 a2 l1 k [] (r1, r2) _ (some ⟨w.heap.size + 1, 0, none⟩) 0 HS.out.1 HS.out.2 HW.out).mono ?_; rintro e_ w3 ⟨rfl, ⟨vF, hW3, hvF⟩, _, _⟩; have HW3 := aa hW3; have HVF := aa hvF; obtain ⟨AL, lc, z0, z1, z2, z3, z4, f3, f4, HL⟩ := hW3.opened; clear hW3 hvF)
 (repeat (go_quiet (fail); try go_wp2)); go_ret2; refine ⟨_, rfl, ?_, by repeat (first | (with_reducible first | exact HW3.out.bel | apply ae | apply ab | apply ac) | exact HW3.out.bel)⟩; rcases HVF.out with ⟨_, h1, rfl⟩ | ⟨_, h2⟩
 ·obtain rfl : r1 = [] := h1; exact Kd.R_nil _ _ _ _ _
 ·(with_reducible repeat (first | apply ah | apply ag | apply ai)); exact bc h2 (fun _ _ => trivial)
def spec_l09Fewest.l0 : Nat → Int → List (S82) → Int → Option (Int)
 | 0, _, _, _ => none
 | k + 1, x0, x1, x5 => if x5 < x0 then ((spec_l09First.f k x0 x1 x5).bind fun bt370 => (if bt370.2 = true then (some x5) else (spec_l09Fewest.l0 k x0 x1 (wrap64 (x5 + 1))))) else (some x0)
def spec_l09Fewest.f (k : Nat) (a0 : Int) (l1 : List (S82)) : Option (Int) := spec_l09Fewest.l0 k a0 l1 1
theorem spec_l09Fewest.mono_l : ∀ k, (∀ y0 y1 y2, LeO (spec_l09Fewest.l0 k y0 y1 y2) (spec_l09Fewest.l0 (k + 1) y0 y1 y2))
 | 0 => fun _ _ _ r h => by simp [spec_l09Fewest.l0] at h
 | k + 1 => by
  have ih0 := spec_l09Fewest.mono_l k
  ·intro y0 y1 y2; unfold spec_l09Fewest.l0
   repeat' first
   | (with_reducible exact ih0 _ _ _)
   | (with_reducible exact spec_l09First.mono _ _ _ _)
   | (with_reducible exact LeO.refl _)
   | (with_reducible exact LeO.none _)
   | (with_reducible refine LeO.ite ?_ ?_)
   | (with_reducible refine LeO.bind ?_ (fun _ => ?_))
   | exact ih0 _ _ _
   | exact spec_l09First.mono _ _ _ _
   | exact LeO.none _
   | refine LeO.ite ?_ ?_
   | refine LeO.bind ?_ (fun _ => ?_)
theorem spec_l09Fewest.mono : ∀ a0 a1 k, LeO (spec_l09Fewest.f k a0 a1) (spec_l09Fewest.f (k + 1) a0 a1) := by
 intro a0 a1 k; have ih0 := spec_l09Fewest.mono_l k; unfold spec_l09Fewest.f
 repeat' first
   | (with_reducible exact ih0 _ _ _)
   | (with_reducible exact spec_l09First.mono _ _ _ _)
   | (with_reducible exact LeO.refl _)
   | (with_reducible exact LeO.none _)
   | (with_reducible refine LeO.ite ?_ ?_)
   | (with_reducible refine LeO.bind ?_ (fun _ => ?_))
   | exact ih0 _ _ _
   | exact spec_l09First.mono _ _ _ _
   | exact LeO.none _
   | refine LeO.ite ?_ ?_
   | refine LeO.bind ?_ (fun _ => ?_)
set_option maxHeartbeats 8000000 in
set_option maxRecDepth 100000 in
theorem spec_l09Fewest.calls (k : Nat) (a0 : Int) (A1 : Option Addr) (c1 : Nat) (l1 : List (S82)) (r : Int) (w : World) (hr1 : Kd.C k82 w A1 l1.length l1) (hc1 : l1.length ≤ c1) (h : spec_l09Fewest.f k a0 l1 = some r) :
  Calls Tryz.prog 58 #[.int .i64 a0, .slice A1 l1.length c1] w fun e w' => e = .returned (.int .i64 r) ∧ Below w.heap.size w w' := by
 have HR1 := aa hr1; have HC1 := aa hc1; clear hr1 hc1; have HB := aa (Below.refl w.heap.size w); have H : (spec_l09Fewest.l0 k a0 l1 1) = some r := h; clear h; have H' := aa H; clear H; go_enter Tryz.func58, Tryz.ntmps58; go_wp2
 go_loopg [5] k (fun kq v5 w' => ∃ (x5_1 : Int), v5 = .int .i64 x5_1 ∧ Aside0 (spec_l09Fewest.l0 kq a0 l1 x5_1 = some r) ∧ Aside0 (kq ≤ k) ∧ Aside0 (Below w.heap.size w w'))
 case atStart => exact ⟨(1), (by first | rfl | (simp; done) | (simp [*]; done)), H', ⟨Nat.le_refl _⟩, ⟨by repeat (first | (with_reducible first | exact HB.out | apply ae | apply ab | apply ac) | exact HB.out)⟩⟩
 case round =>
  clear H'; (try clear c1); (try clear p2); obtain ⟨x5_1, rfl, HA, HK1, HB⟩ := hrel
  cases gk with
  | zero => exact absurd HA.out (by simp [spec_l09Fewest.l0])
  | succ k1 =>
   have H := HA.out; clear HA; simp only [spec_l09Fewest.l0] at H; by_cases c3 : x5_1 < a0
   ·rw [if_pos c3] at H; have c3b0 : decide (x5_1 < a0) = true := decide_eq_true c3; clear c3; replace H := bf.mp H; obtain ⟨⟨t370, t371⟩, A40, H⟩ := H; (try dsimp only at H); have A4 := aa A40; clear A40; by_cases c5 : t371 = true
    ·subst c5; (have H1 : (some x5_1) = some r := by rw [if_pos rfl] at H; exact H); clear H; have H := H1; clear H1; obtain rfl := Option.some.inj H
     go_wp2_with (first | ((with_reducible refine gate_callee (f := 61) rfl ?_); refine goesL_ (some 17) rfl rfl Tryz.func61 (by kernel_rfl) rfl #[.int .i64 a0, .slice A1 l1.length c1, .int .i64 x5_1] rfl (by (try simp only [b3, b4, b5]); first | done | rfl | (simp only [b0, b2]; rfl)) ?_; (with_reducible refine (spec_l09First.calls k1 a0 _ _ l1 x5_1 t370 true _ ?side1 ?side2 A4.out).mono ?_); (case side1 => repeat (first | exact (ay HR1.out HB.out) | (with_reducible refine ar ?_ _) | (with_reducible refine au ?_ _) | (with_reducible refine av ?_))); (case side2 => exact HC1.out); rintro e w6 ⟨v372, rfl, ho0, hb⟩; refine ⟨_, rfl, ?_⟩; have n0_ := aa (bd ho0 (al (by repeat (first | (with_reducible first | exact HB.out | apply ae | apply ab | apply ac) | exact HB.out)))); have n1_ := aa (af (by repeat (first | (with_reducible first | exact HB.out | apply ae | apply ab | apply ac) | exact HB.out)) hb); clear HB; have HO373 := n0_; have HB := n1_; clear n0_ n1_; (try clear hb); (try clear hb2); (try clear hk); (try clear hi); (try clear ho0)))
     go_ret; exact ⟨by first | rfl | (simp [errW_none, errW_some] <;> rfl) | (simp [*, errW_none, errW_some] <;> rfl), by repeat (first | (with_reducible first | exact HB.out | apply ae | apply ab | apply ac) | exact HB.out)⟩
    ·replace c5 := Bool.eq_false_iff.mpr c5; subst c5; (have H1 : (spec_l09Fewest.l0 k1 a0 l1 (wrap64 (x5_1 + 1))) = some r := by rw [if_neg (show ¬ (false = true) by decide)] at H; exact H); clear H; have H := H1; clear H1; have H' := aa H; clear H
     go_wp2_with (first | ((with_reducible refine gate_callee (f := 61) rfl ?_); refine goesL_ (some 17) rfl rfl Tryz.func61 (by kernel_rfl) rfl #[.int .i64 a0, .slice A1 l1.length c1, .int .i64 x5_1] rfl (by (try simp only [b3, b4, b5]); first | done | rfl | (simp only [b0, b2]; rfl)) ?_; (with_reducible refine (spec_l09First.calls k1 a0 _ _ l1 x5_1 t370 false _ ?side1 ?side2 A4.out).mono ?_); (case side1 => repeat (first | exact (ay HR1.out HB.out) | (with_reducible refine ar ?_ _) | (with_reducible refine au ?_ _) | (with_reducible refine av ?_))); (case side2 => exact HC1.out); rintro e w7 ⟨v372, rfl, ho0, hb⟩; refine ⟨_, rfl, ?_⟩; have n0_ := aa (bd ho0 (al (by repeat (first | (with_reducible first | exact HB.out | apply ae | apply ab | apply ac) | exact HB.out)))); have n1_ := aa (af (by repeat (first | (with_reducible first | exact HB.out | apply ae | apply ab | apply ac) | exact HB.out)) hb); clear HB; have HO373 := n0_; have HB := n1_; clear n0_ n1_; (try clear hb); (try clear hb2); (try clear hk); (try clear hi); (try clear ho0)))
     go_roundg k1
     case measure => have := HK1.out; omega
     case rel => exact ⟨(wrap64 (x5_1 + 1)), (by first | rfl | (simp; done) | (simp [*]; done)), H', ⟨by have := HK1.out; omega⟩, ⟨by repeat (first | (with_reducible first | exact HB.out | apply ae | apply ab | apply ac) | exact HB.out)⟩⟩
   ·rw [if_neg c3] at H; have c3b0 : decide (x5_1 < a0) = false := decide_eq_false c3; clear c3; obtain rfl := Option.some.inj H; go_wp2; go_ret; exact ⟨by first | rfl | (simp [errW_none, errW_some] <;> rfl) | (simp [*, errW_none, errW_some] <;> rfl), by repeat (first | (with_reducible first | exact HB.out | apply ae | apply ab | apply ac) | exact HB.out)⟩
def spec_FewestColours.f (k : Nat) (a0 : Int) (l1 : List (S82)) : Option (Int × Int) := (spec_l09Ok.f k a0 l1).bind fun t374 => (if t374 = true then ((spec_l09Fewest.f k a0 l1).bind fun t375 => (some (t375, 0))) else (some (0, 1)))
theorem spec_FewestColours.mono : ∀ a0 a1 k, LeO (spec_FewestColours.f k a0 a1) (spec_FewestColours.f (k + 1) a0 a1) := by
 intro a0 a1 k; unfold spec_FewestColours.f
 repeat' first
   | (with_reducible exact spec_l09Fewest.mono _ _ _)
   | (with_reducible exact spec_l09Ok.mono _ _ _)
   | (with_reducible exact LeO.refl _)
   | (with_reducible exact LeO.none _)
   | (with_reducible refine LeO.ite ?_ ?_)
   | (with_reducible refine LeO.bind ?_ (fun _ => ?_))
   | exact spec_l09Fewest.mono _ _ _
   | exact spec_l09Ok.mono _ _ _
   | exact LeO.none _
   | refine LeO.ite ?_ ?_
   | refine LeO.bind ?_ (fun _ => ?_)
set_option maxHeartbeats 8000000 in
set_option maxRecDepth 100000 in
theorem spec_FewestColours.calls (k : Nat) (a0 : Int) (A1 : Option Addr) (c1 : Nat) (l1 : List (S82)) (r1 : Int) (r2 : Int) (w : World) (hr1 : Kd.C k82 w A1 l1.length l1) (hc1 : l1.length ≤ c1) (h : spec_FewestColours.f k a0 l1 = some (r1, r2)) :
  Calls Tryz.prog 25 #[.int .i64 a0, .slice A1 l1.length c1] w fun e w' => e = .returned (.tuple #[.int .i64 r1, .int .i64 r2]) ∧ Below w.heap.size w w' := by
 have HR1 := aa hr1; have HC1 := aa hc1; clear hr1 hc1; have HB := aa (Below.refl w.heap.size w); have H : ((spec_l09Ok.f k a0 l1).bind fun t374 => (if t374 = true then ((spec_l09Fewest.f k a0 l1).bind fun t375 => (some (t375, 0))) else (some (0, 1)))) = some (r1, r2) := h; clear h; replace H := bf.mp H; obtain ⟨t374, A30, H⟩ := H; (try dsimp only at H); have A3 := aa A30; clear A30; by_cases c4 : t374 = true
 ·subst c4; (have H1 : ((spec_l09Fewest.f k a0 l1).bind fun t375 => (some (t375, 0))) = some (r1, r2) := by rw [if_pos rfl] at H; exact H); clear H; have H := H1; clear H1; replace H := bf.mp H; obtain ⟨t375, A50, H⟩ := H; replace H : (some (t375, 0)) = some (r1, r2) := H; have A5 := aa A50; clear A50; simp only [Option.some.injEq, Prod.mk.injEq] at H; obtain ⟨rfl, rfl⟩ := H; go_enter Tryz.func25, Tryz.ntmps25
  go_wp2_with (first | ((with_reducible refine gate_callee (f := 57) rfl ?_); refine goesL_ (some 8) rfl rfl Tryz.func57 (by kernel_rfl) rfl #[.int .i64 a0, .slice A1 l1.length c1] rfl (by (try simp only [b3, b4, b5]); first | done | rfl | (simp only [b0, b2]; rfl)) ?_; (with_reducible refine (spec_l09Ok.calls k a0 _ _ l1 true _ ?side1 ?side2 A3.out).mono ?_); (case side1 => repeat (first | exact HR1.out | (with_reducible refine ar ?_ _) | (with_reducible refine au ?_ _) | (with_reducible refine av ?_))); (case side2 => exact HC1.out); rintro e w' ⟨rfl, ⟨nd, rfl⟩⟩; refine ⟨_, rfl, ?_⟩) | ((with_reducible refine gate_callee (f := 58) rfl ?_); refine goesL_ (some 12) rfl rfl Tryz.func58 (by kernel_rfl) rfl #[.int .i64 a0, .slice A1 l1.length c1] rfl (by (try simp only [b3, b4, b5]); first | done | rfl | (simp only [b0, b2]; rfl)) ?_; (with_reducible refine (spec_l09Fewest.calls k a0 _ _ l1 t375 _ ?side1 ?side2 A5.out).mono ?_); (case side1 => repeat (first | exact HR1.out | (with_reducible refine ar ?_ _) | (with_reducible refine au ?_ _) | (with_reducible refine av ?_))); (case side2 => exact HC1.out); rintro e w6 ⟨rfl, hb⟩; refine ⟨_, rfl, ?_⟩; have n0_ := aa (af (by repeat (first | (with_reducible first | exact HB.out | apply ae | apply ab | apply ac) | exact HB.out)) hb); clear HB; have HB := n0_; clear n0_; (try clear hb); (try clear hb2); (try clear hk); (try clear hi)))
  go_ret2; exact ⟨by first | rfl | (simp [errW_none, errW_some] <;> rfl) | (simp [*, errW_none, errW_some] <;> rfl), by repeat (first | (with_reducible first | exact HB.out | apply ae | apply ab | apply ac) | exact HB.out)⟩
 ·replace c4 := Bool.eq_false_iff.mpr c4; subst c4; (have H1 : (some (0, 1)) = some (r1, r2) := by rw [if_neg (show ¬ (false = true) by decide)] at H; exact H); clear H; have H := H1; clear H1; simp only [Option.some.injEq, Prod.mk.injEq] at H; obtain ⟨rfl, rfl⟩ := H; go_enter Tryz.func25, Tryz.ntmps25
  go_wp2_with (first | ((with_reducible refine gate_callee (f := 57) rfl ?_); refine goesL_ (some 8) rfl rfl Tryz.func57 (by kernel_rfl) rfl #[.int .i64 a0, .slice A1 l1.length c1] rfl (by (try simp only [b3, b4, b5]); first | done | rfl | (simp only [b0, b2]; rfl)) ?_; (with_reducible refine (spec_l09Ok.calls k a0 _ _ l1 false _ ?side1 ?side2 A3.out).mono ?_); (case side1 => repeat (first | exact HR1.out | (with_reducible refine ar ?_ _) | (with_reducible refine au ?_ _) | (with_reducible refine av ?_))); (case side2 => exact HC1.out); rintro e w' ⟨rfl, ⟨nd, rfl⟩⟩; refine ⟨_, rfl, ?_⟩))
  go_ret2; exact ⟨by first | rfl | (simp [errW_none, errW_some] <;> rfl) | (simp [*, errW_none, errW_some] <;> rfl), by repeat (first | (with_reducible first | exact HB.out | apply ae | apply ab | apply ac) | exact HB.out)⟩
def spec_l09Colours.l0 : Nat → Int → List Int → Int → Option (Bool)
 | 0, _, _, _ => none
 | k + 1, x0, x1, x5 => if x5 < (x1.length : Int) then (if 0 ≤ x5 then ((spec_l00In.f (rd x1 x5) 0 9).bind fun t377 => (if t377 = true then (spec_l09Colours.l0 k x0 x1 (wrap64 (x5 + 1))) else (some false))) else (none)) else (some ((x1.length : Int) == x0))
def spec_l09Colours.f (k : Nat) (a0 : Int) (l1 : List Int) : Option (Bool) := spec_l09Colours.l0 k a0 l1 0
theorem spec_l09Colours.mono_l : ∀ k, (∀ y0 y1 y2, LeO (spec_l09Colours.l0 k y0 y1 y2) (spec_l09Colours.l0 (k + 1) y0 y1 y2))
 | 0 => fun _ _ _ r h => by simp [spec_l09Colours.l0] at h
 | k + 1 => by
  have ih0 := spec_l09Colours.mono_l k
  ·intro y0 y1 y2; unfold spec_l09Colours.l0
   repeat' first
   | (with_reducible exact ih0 _ _ _)
   | (with_reducible exact LeO.refl _)
   | (with_reducible exact LeO.none _)
   | (with_reducible refine LeO.ite ?_ ?_)
   | (with_reducible refine LeO.bind ?_ (fun _ => ?_))
   | exact ih0 _ _ _
   | exact LeO.none _
   | refine LeO.ite ?_ ?_
   | refine LeO.bind ?_ (fun _ => ?_)
theorem spec_l09Colours.mono : ∀ a0 a1 k, LeO (spec_l09Colours.f k a0 a1) (spec_l09Colours.f (k + 1) a0 a1) := by
 intro a0 a1 k; have ih0 := spec_l09Colours.mono_l k; unfold spec_l09Colours.f
 repeat' first
   | (with_reducible exact ih0 _ _ _)
   | (with_reducible exact LeO.refl _)
   | (with_reducible exact LeO.none _)
   | (with_reducible refine LeO.ite ?_ ?_)
   | (with_reducible refine LeO.bind ?_ (fun _ => ?_))
   | exact ih0 _ _ _
   | exact LeO.none _
   | refine LeO.ite ?_ ?_
   | refine LeO.bind ?_ (fun _ => ?_)
set_option maxHeartbeats 8000000 in
set_option maxRecDepth 100000 in
theorem spec_l09Colours.calls (k : Nat) (a0 : Int) (A1 : Option Addr) (c1 : Nat) (l1 : List Int) (r : Bool) (w : World) (hr1 : Kd.C (Kd.int .i64) w A1 l1.length l1) (hc1 : l1.length ≤ c1) (h : spec_l09Colours.f k a0 l1 = some r) :
  Calls Tryz.prog 59 #[.int .i64 a0, .slice A1 l1.length c1] w fun e w' => e = .returned (.bool r) ∧ Drawn0 w w' := by
 have HR1 := aa hr1; have HC1 := aa hc1; clear hr1 hc1; have H : (spec_l09Colours.l0 k a0 l1 0) = some r := h; clear h; have H' := aa H; clear H; go_enter Tryz.func59, Tryz.ntmps59; go_wp2
 go_loopg [5] k (fun kq v5 w' => ∃ (x5_1 : Int), v5 = .int .i64 x5_1 ∧ Aside0 (spec_l09Colours.l0 kq a0 l1 x5_1 = some r) ∧ Aside0 (kq ≤ k) ∧ Drawn0 w w')
 case atStart => exact ⟨(0), (by first | rfl | (simp; done) | (simp [*]; done)), H', ⟨Nat.le_refl _⟩, by repeat (first | exact Drawn0.refl _ | apply Drawn0.step)⟩
 case round =>
  clear H'; (try clear c1); (try clear p2); obtain ⟨x5_1, rfl, HA, HK1, ⟨m1, rfl⟩⟩ := hrel
  cases gk with
  | zero => exact absurd HA.out (by simp [spec_l09Colours.l0])
  | succ k1 =>
   have H := HA.out; clear HA; simp only [spec_l09Colours.l0] at H; by_cases c3 : x5_1 < (l1.length : Int)
   ·rw [if_pos c3] at H; have c3b0 : decide (x5_1 < (l1.length : Int)) = true := decide_eq_true c3; clear c3; by_cases c4 : 0 ≤ x5_1
    ·rw [if_pos c4] at H; have c4b0 : decide (0 ≤ x5_1) = true := decide_eq_true c4; clear c4; replace H := bf.mp H; obtain ⟨t377, A50, H⟩ := H; (try dsimp only at H); have A5 := aa A50; clear A50; by_cases c6 : t377 = true
     ·subst c6; (have H1 : (spec_l09Colours.l0 k1 a0 l1 (wrap64 (x5_1 + 1))) = some r := by rw [if_pos rfl] at H; exact H); clear H; have H := H1; clear H1; have H' := aa H; clear H; have p376 : 0 ≤ (x5_1 : Int) := of_decide_eq_true (by first | (with_reducible assumption) | assumption); have q376 : x5_1 < (l1.length : Int) := of_decide_eq_true (by first | (with_reducible assumption) | assumption); obtain ⟨ad376, e376, hx376_0⟩ := ax HR1.out x5_1 p376 q376
      cases e376
      replace p376 := eq_true p376; replace q376 := eq_true q376
      go_wp2_with (first | ((with_reducible refine gate_callee (f := 54) rfl ?_); refine goesL_ (some 16) rfl rfl Tryz.func54 (by kernel_rfl) rfl #[.int .i64 (rd l1 x5_1), .int .i64 0, .int .i64 9] rfl (by (try simp only [b3, b4, b5]); first | done | rfl | (simp only [b0, b2]; rfl)) ?_; (with_reducible refine (spec_l00In.calls (rd l1 x5_1) 0 9 true _ A5.out).mono ?_); rintro e w' ⟨rfl, ⟨nd, rfl⟩⟩; refine ⟨_, rfl, ?_⟩))
      go_roundg k1
      case measure => have := HK1.out; omega
      case rel => exact ⟨(wrap64 (x5_1 + 1)), (by first | rfl | (simp; done) | (simp [*]; done)), H', ⟨by have := HK1.out; omega⟩, by repeat (first | exact Drawn0.refl _ | apply Drawn0.step)⟩
     ·replace c6 := Bool.eq_false_iff.mpr c6; subst c6; (have H1 : (some false) = some r := by rw [if_neg (show ¬ (false = true) by decide)] at H; exact H); clear H; have H := H1; clear H1; obtain rfl := Option.some.inj H; have p376 : 0 ≤ (x5_1 : Int) := of_decide_eq_true (by first | (with_reducible assumption) | assumption); have q376 : x5_1 < (l1.length : Int) := of_decide_eq_true (by first | (with_reducible assumption) | assumption); obtain ⟨ad376, e376, hx376_0⟩ := ax HR1.out x5_1 p376 q376
      cases e376
      replace p376 := eq_true p376; replace q376 := eq_true q376
      go_wp2_with (first | ((with_reducible refine gate_callee (f := 54) rfl ?_); refine goesL_ (some 16) rfl rfl Tryz.func54 (by kernel_rfl) rfl #[.int .i64 (rd l1 x5_1), .int .i64 0, .int .i64 9] rfl (by (try simp only [b3, b4, b5]); first | done | rfl | (simp only [b0, b2]; rfl)) ?_; (with_reducible refine (spec_l00In.calls (rd l1 x5_1) 0 9 false _ A5.out).mono ?_); rintro e w' ⟨rfl, ⟨nd, rfl⟩⟩; refine ⟨_, rfl, ?_⟩))
      go_ret; exact ⟨by first | rfl | (simp; done) | (simp [*]; done), by repeat (first | exact Drawn0.refl _ | apply Drawn0.step)⟩
    ·rw [if_neg c4] at H; exact absurd H (by simp)
   ·rw [if_neg c3] at H; have c3b0 : decide (x5_1 < (l1.length : Int)) = false := decide_eq_false c3; clear c3; obtain rfl := Option.some.inj H; go_wp2; go_ret; exact ⟨by first | rfl | (simp; done) | (simp [*]; done), by repeat (first | exact Drawn0.refl _ | apply Drawn0.step)⟩
end Go.Proofs.YtmgljagkmaoopaaGreat.QFnTopOfAll
