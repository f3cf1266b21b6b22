/- Walks of the Go functions that the law FnTopOfAll reaches: written by a program of this session. -/
import Derived.Test.YtmgljagkmaoopaaGreatQFnTopOfAllx0
import Derived.Test.YtmgljagkmaoopaaGreatQFnTopOfAllx5
import Derived.Test.YtmgljagkmaoopaaGreatQFnTopOfAllx6
namespace Go.Proofs.YtmgljagkmaoopaaGreat.QFnTopOfAll
open Go.RowKit Go.Proofs.YtmgljagkmaoopaaGreatW.PrintWords Go.Proofs.YtmgljagkmaoopaaGreatW.PrintLast Go.Proofs.YtmgljagkmaoopaaGreatW.PrintMore
attribute [local go_sem] max2_int min2_int max_two min_two max_three min_three max_four min_four
open Go.Proofs.YtmgljagkmaoopaaGreatW.PrintWords renaming below_alloc → ae, below_drew1 → ac, below_step → af, pw_below_drewN → ab
open Go.Proofs.YtmgljagkmaoopaaGreatW.PrintWords.Aside0 renaming mk → aa
open Go.Proofs.YtmgljagkmaoopaaGreatW.PrintWords.Kd renaming C_alloc → ar, C_below → ay, C_drew → av, C_drewN → au, at_int → ax
open Option renaming bind_eq_some_iff → bf
open List renaming length_drop → b0, length_take → b2, map_cons → b4, map_nil → b5, map_toArray → b3, setIfInBounds_toArray → a7, set_cons_succ → a9, set_cons_zero → a8
set_option linter.unusedVariables false
set_option linter.unusedSimpArgs false
mutual
def laws_a2Stand.j0 : Nat → List (S71) → List Int → Int → Bool → Option (Bool)
 | 0, _, _, _, _ => none
 | k + 1, x0, x1, x2, x37 => if x37 = true then (some false) else (laws_a2Stand.l0 k x0 x1 x2 1)
def laws_a2Stand.l0 : Nat → List (S71) → List Int → Int → Int → Option (Bool)
 | 0, _, _, _, _ => none
 | k + 1, x0, x1, x2, x7 => if x7 < (x1.length : Int) then (if 0 ≤ (wrap64 (x7 - 1)) then (if (wrap64 (x7 - 1)) < (x1.length : Int) then (if 0 ≤ x7 then ((spec_StaysWithin.f k x0 (rd x1 (wrap64 (x7 - 1))) (rd x1 x7) x2).bind fun bt200 => (if bt200.2 = 0 then (if bt200.1 = true then (laws_a2Stand.l0 k x0 x1 x2 (wrap64 (x7 + 1))) else (some false)) else (some false))) else (none)) else (none)) else (none)) else (some true)
end
def laws_a2Stand.f (k : Nat) (l0 : List (S71)) (l1 : List Int) (a2 : Int) : Option (Bool) := if (l1.length : Int) < 2 then (laws_a2Stand.j0 k l0 l1 a2 true) else ((laws_a2Rises.f k l1 (l0.length : Int)).bind fun t195 => (if t195 = true then (if 0 < (l1.length : Int) then (if (rd l1 0) = 0 then (if 0 ≤ (wrap64 ((l1.length : Int) - 1)) then (if (wrap64 ((l1.length : Int) - 1)) < (l1.length : Int) then (laws_a2Stand.j0 k l0 l1 a2 ((rd l1 (wrap64 ((l1.length : Int) - 1))) != (wrap64 ((l0.length : Int) - 1)))) else (none)) else (none)) else (laws_a2Stand.j0 k l0 l1 a2 true)) else (none)) else (laws_a2Stand.j0 k l0 l1 a2 true)))
theorem laws_a2Stand.mono_l : ∀ k, (∀ y0 y1 y2 y3, LeO (laws_a2Stand.j0 k y0 y1 y2 y3) (laws_a2Stand.j0 (k + 1) y0 y1 y2 y3)) ∧ (∀ y0 y1 y2 y3, LeO (laws_a2Stand.l0 k y0 y1 y2 y3) (laws_a2Stand.l0 (k + 1) y0 y1 y2 y3))
 | 0 => ⟨fun _ _ _ _ r h => by simp [laws_a2Stand.j0] at h, fun _ _ _ _ r h => by simp [laws_a2Stand.l0] at h⟩
 | k + 1 => by
  obtain ⟨ih0, ih1⟩ := laws_a2Stand.mono_l k; refine ⟨?_, ?_⟩; (all_goals intros); (all_goals first | unfold laws_a2Stand.j0 | unfold laws_a2Stand.l0)
  all_goals repeat' first
   | (with_reducible exact ih0 _ _ _ _)
   | (with_reducible exact ih1 _ _ _ _)
   | (with_reducible exact laws_a2Rises.mono _ _ _)
   | (with_reducible exact spec_StaysWithin.mono _ _ _ _ _)
   | (with_reducible exact LeO.refl _)
   | (with_reducible exact LeO.none _)
   | (with_reducible refine LeO.ite ?_ ?_)
   | (with_reducible refine LeO.bind ?_ (fun _ => ?_))
   | exact ih0 _ _ _ _
   | exact ih1 _ _ _ _
   | exact laws_a2Rises.mono _ _ _
   | exact spec_StaysWithin.mono _ _ _ _ _
   | exact LeO.none _
   | refine LeO.ite ?_ ?_
   | refine LeO.bind ?_ (fun _ => ?_)
theorem laws_a2Stand.mono : ∀ a0 a1 a2 k, LeO (laws_a2Stand.f k a0 a1 a2) (laws_a2Stand.f (k + 1) a0 a1 a2) := by
 intro a0 a1 a2 k; obtain ⟨ih0, ih1⟩ := laws_a2Stand.mono_l k; unfold laws_a2Stand.f
 repeat' first
   | (with_reducible exact ih0 _ _ _ _)
   | (with_reducible exact ih1 _ _ _ _)
   | (with_reducible exact laws_a2Rises.mono _ _ _)
   | (with_reducible exact spec_StaysWithin.mono _ _ _ _ _)
   | (with_reducible exact LeO.refl _)
   | (with_reducible exact LeO.none _)
   | (with_reducible refine LeO.ite ?_ ?_)
   | (with_reducible refine LeO.bind ?_ (fun _ => ?_))
   | exact ih0 _ _ _ _
   | exact ih1 _ _ _ _
   | exact laws_a2Rises.mono _ _ _
   | exact spec_StaysWithin.mono _ _ _ _ _
   | exact LeO.none _
   | refine LeO.ite ?_ ?_
   | refine LeO.bind ?_ (fun _ => ?_)
def laws_a2Stand.T6 : Bool × List (List Nat × List Nat) := (true, [([], []), ([], []), ([], []), ([2], [2]), ([1, 3], [1, 3]), ([4], [4]), ([], []), ([], []), ([6, 7], [6, 7]), ([8], [8]), ([], []), ([0, 5, 9, 10], [0, 5, 9, 10]), ([11], [11]), ([12], [12]), ([12], [12]), ([13, 11, 0, 1, 2, 3, 4, 5, 6, 7, 8, 9, 10, 11, 12, 13], [13]), ([14, 15, 0, 1, 2, 3, 4, 5, 6, 7, 8, 9, 10, 11, 12, 13, 14, 15], [14])])
def laws_a2Stand.B6 : List Nat := [0, 0, 0, 4, 14, 30, 0, 0, 192, 448, 0, 2047, 4095, 8191, 8191, 16383, 65535]
theorem laws_a2Stand.tab6 : rtab .any (opsOf Tryz.f10 6) = laws_a2Stand.T6 := by kernel_rfl
theorem laws_a2Stand.bits6 : waitsOk laws_a2Stand.T6.2 laws_a2Stand.B6 = true := by kernel_rfl
set_option maxHeartbeats 8000000 in
set_option maxRecDepth 100000 in
theorem laws_a2Stand.calls (k : Nat) (A0 : Option Addr) (c0 : Nat) (l0 : List (S71)) (A1 : Option Addr) (c1 : Nat) (l1 : List Int) (a2 : Int) (r : Bool) (w : World) (hr0 : Kd.C k71 w A0 l0.length l0) (hc0 : l0.length ≤ c0) (hr1 : Kd.C (Kd.int .i64) w A1 l1.length l1) (hc1 : l1.length ≤ c1) (h : laws_a2Stand.f k l0 l1 a2 = some r) :
  Calls Tryz.prog 10 #[.slice A0 l0.length c0, .slice A1 l1.length c1, .int .i64 a2] w fun e w' => e = .returned (.bool r) ∧ Below w.heap.size w w' := by
 have HR0 := aa hr0; have HC0 := aa hc0; clear hr0 hc0; have HR1 := aa hr1; have HC1 := aa hc1; clear hr1 hc1; have HB := aa (Below.refl w.heap.size w); have H : (if (l1.length : Int) < 2 then (laws_a2Stand.j0 k l0 l1 a2 true) else ((laws_a2Rises.f k l1 (l0.length : Int)).bind fun t195 => (if t195 = true then (if 0 < (l1.length : Int) then (if (rd l1 0) = 0 then (if 0 ≤ (wrap64 ((l1.length : Int) - 1)) then (if (wrap64 ((l1.length : Int) - 1)) < (l1.length : Int) then (laws_a2Stand.j0 k l0 l1 a2 ((rd l1 (wrap64 ((l1.length : Int) - 1))) != (wrap64 ((l0.length : Int) - 1)))) else (none)) else (none)) else (laws_a2Stand.j0 k l0 l1 a2 true)) else (none)) else (laws_a2Stand.j0 k l0 l1 a2 true)))) = some r := h; clear h; have HC4 := aa H; clear H; go_enter Tryz.func10, Tryz.ntmps10
 go_upto_region 1 with (fail)
 go_cut [37] (fun v37 wc => ∃ (kq : Nat) (x37_3 : Bool), v37 = .bool x37_3 ∧ Aside0 (laws_a2Stand.j0 kq l0 l1 a2 x37_3 = some r) ∧ Aside0 (kq ≤ k) ∧ Aside0 (Below w.heap.size w wc))
 case first =>
  have H := HC4.out; clear HC4; by_cases c5 : (l1.length : Int) < 2
  ·rw [if_pos c5] at H; have c5b0 : decide ((l1.length : Int) < 2) = true := decide_eq_true c5; have c5b1 : decide (l1.length < 2) = true := decide_eq_true (by omega); clear c5; (first | rw [c5b0] | (simp only [i64_w, i32_w]; rw [c5b0]) | skip); have H' := aa H; clear H; go_wp2
   go_meet
   case rel => exact ⟨_, (true), (by first | rfl | (simp; done) | (simp [*]; done)), H', ⟨by first | omega | exact Nat.le_refl _⟩, ⟨by repeat (first | (with_reducible first | exact HB.out | apply ae | apply ab | apply ac) | exact HB.out)⟩⟩
  ·rw [if_neg c5] at H; have c5b0 : decide ((l1.length : Int) < 2) = false := decide_eq_false c5; have c5b1 : decide (l1.length < 2) = false := decide_eq_false (by omega); clear c5; (first | rw [c5b0] | (simp only [i64_w, i32_w]; rw [c5b0]) | skip); replace H := bf.mp H; obtain ⟨t195, A60, H⟩ := H; (try dsimp only at H); have A6 := aa A60; clear A60; by_cases c7 : t195 = true
   ·subst c7; have H1 := H; rw [if_pos rfl] at H1; clear H; have H := H1; clear H1; by_cases c8 : 0 < (l1.length : Int)
    ·rw [if_pos c8] at H; have c8b0 : decide (0 < (l1.length : Int)) = true := decide_eq_true c8; have c8b1 : decide (0 < l1.length) = true := decide_eq_true (by omega); clear c8; by_cases c9 : (rd l1 0) = 0
     ·rw [if_pos c9] at H; have c9b0 : ((rd l1 0) == 0) = true := beq_iff_eq.mpr c9; have c9b1 : ((rd l1 0) != 0) = false := bne_eq_false_iff_eq.mpr c9; clear c9; obtain ⟨ji10, hji10⟩ : ∃ j_ : Int, (wrap64 ((l1.length : Int) - 1)) = j_ := ⟨_, rfl⟩; (replace H : (if 0 ≤ (ji10) then (if (ji10) < (l1.length : Int) then (laws_a2Stand.j0 k l0 l1 a2 ((rd l1 (ji10)) != (wrap64 ((l0.length : Int) - 1)))) else (none)) else (none)) = some r := by first | (rw [hji10] at H; exact H) | (simp only [hji10] at H ⊢; exact H)); (try rw [hji10] at A6); have hji10w : (IntKind.i64.wrap ((l1.length : Int) - 1)) = ji10 := (i64_w _).trans hji10; by_cases c11 : 0 ≤ (ji10)
      ·rw [if_pos c11] at H; have c11b0 : decide (0 ≤ (ji10)) = true := decide_eq_true c11; clear c11; by_cases c12 : (ji10) < (l1.length : Int)
       ·rw [if_pos c12] at H; have c12b0 : decide ((ji10) < (l1.length : Int)) = true := decide_eq_true c12; clear c12; have H' := aa H; clear H
        go_wp2_with (first | (go_at_call 35; (with_reducible refine (laws_a2Rises.calls k _ _ l1 (l0.length : Int) true _ ?side1 ?side2 A6.out).mono ?_); (case side1 => repeat (first | exact (ay HR1.out HB.out) | (with_reducible refine ar ?_ _) | (with_reducible refine au ?_ _) | (with_reducible refine av ?_))); (case side2 => exact HC1.out); rintro e w' ⟨rfl, ⟨nd, rfl⟩⟩; have p196 : 0 ≤ (0 : Int) := (by omega); have q196 : 0 < (l1.length : Int) := of_decide_eq_true (by first | (with_reducible assumption) | assumption); obtain ⟨ad196, e196, hx196_0⟩ := ax HR1.out 0 p196 q196; cases e196; have qi196 : (0 < l1.length) = True := eq_true (by omega); (try rw [show ((0 : Int)).toNat = 0 from rfl] at hx196_0); (try rw [Addr.add_zero'] at hx196_0); replace hx196_0 := (HB.out.cell (World.block_lt_of_cell? w _ hx196_0)).trans hx196_0; replace p196 := eq_true p196; replace q196 := eq_true q196; have p197 : 0 ≤ ((ji10) : Int) := of_decide_eq_true (by first | (with_reducible assumption) | assumption); have q197 : (ji10) < (l1.length : Int) := of_decide_eq_true (by first | (with_reducible assumption) | assumption); obtain ⟨ad197, e197, hx197_0⟩ := ax HR1.out (ji10) p197 q197; obtain rfl : ad196 = ad197 := (by injection e197); replace hx197_0 := (HB.out.cell (World.block_lt_of_cell? w _ hx197_0)).trans hx197_0; replace p197 := eq_true p197; replace q197 := eq_true q197))
        go_meet
        case rel => exact ⟨_, (((rd l1 (ji10)) != (wrap64 ((l0.length : Int) - 1)))), (by first | rfl | (simp; done) | (simp only [← hji10] <;> (first | rfl | simp)) | (simp [*]; done)), H', ⟨by first | omega | exact Nat.le_refl _⟩, ⟨by repeat (first | (with_reducible first | exact HB.out | apply ae | apply ab | apply ac) | exact HB.out)⟩⟩
       ·rw [if_neg c12] at H; exact absurd H (by simp)
      ·rw [if_neg c11] at H; exact absurd H (by simp)
     ·rw [if_neg c9] at H; have c9b0 : ((rd l1 0) == 0) = false := beq_eq_false_iff_ne.mpr c9; have c9b1 : ((rd l1 0) != 0) = true := bne_iff_ne.mpr c9; have H' := aa H; clear H
      go_wp2_with (first | (go_at_call 35; (with_reducible refine (laws_a2Rises.calls k _ _ l1 (l0.length : Int) true _ ?side1 ?side2 A6.out).mono ?_); (case side1 => repeat (first | exact (ay HR1.out HB.out) | (with_reducible refine ar ?_ _) | (with_reducible refine au ?_ _) | (with_reducible refine av ?_))); (case side2 => exact HC1.out); rintro e w' ⟨rfl, ⟨nd, rfl⟩⟩; have p196 : 0 ≤ (0 : Int) := (by omega); have q196 : 0 < (l1.length : Int) := of_decide_eq_true (by first | (with_reducible assumption) | assumption); obtain ⟨ad196, e196, hx196_0⟩ := ax HR1.out 0 p196 q196; cases e196; have qi196 : (0 < l1.length) = True := eq_true (by omega); (try rw [show ((0 : Int)).toNat = 0 from rfl] at hx196_0); (try rw [Addr.add_zero'] at hx196_0); replace hx196_0 := (HB.out.cell (World.block_lt_of_cell? w _ hx196_0)).trans hx196_0; replace p196 := eq_true p196; replace q196 := eq_true q196))
      go_meet
      case rel => exact ⟨_, (true), (by first | rfl | (simp; done) | (simp [*]; done)), H', ⟨by first | omega | exact Nat.le_refl _⟩, ⟨by repeat (first | (with_reducible first | exact HB.out | apply ae | apply ab | apply ac) | exact HB.out)⟩⟩
    ·rw [if_neg c8] at H; exact absurd H (by simp)
   ·replace c7 := Bool.eq_false_iff.mpr c7; subst c7; (have H1 : (laws_a2Stand.j0 k l0 l1 a2 true) = some r := by rw [if_neg (show ¬ (false = true) by decide)] at H; exact H); clear H; have H := H1; clear H1; have H' := aa H; clear H
    go_wp2_with (first | (go_at_call 35; (with_reducible refine (laws_a2Rises.calls k _ _ l1 (l0.length : Int) false _ ?side1 ?side2 A6.out).mono ?_); (case side1 => repeat (first | exact (ay HR1.out HB.out) | (with_reducible refine ar ?_ _) | (with_reducible refine au ?_ _) | (with_reducible refine av ?_))); (case side2 => exact HC1.out); rintro e w' ⟨rfl, ⟨nd, rfl⟩⟩))
    go_meet
    case rel => exact ⟨_, (true), (by first | rfl | (simp; done) | (simp [*]; done)), H', ⟨by first | omega | exact Nat.le_refl _⟩, ⟨by repeat (first | (with_reducible first | exact HB.out | apply ae | apply ab | apply ac) | exact HB.out)⟩⟩
 case rest =>
  clear HC4; (try clear c1); (try clear p1); (try clear q1); (try clear hx1); (try clear qi1); (try clear p2); (try clear c5); (try clear c5b0); (try clear c5b1); (try clear p6); (try clear c7); (try clear c8); (try clear c8b0); (try clear c8b1); (try clear c9); (try clear c9b0); (try clear c9b1); (try clear c10); (try clear c11); (try clear c11b0); (try clear c12); (try clear c12b0); (try clear hx196_0); (try clear hx197_0); (try clear p196); (try clear p197); (try clear q196); (try clear q197); obtain ⟨kq, x37_3, rfl, HA, HJ3, HB⟩ := hcut
  cases kq with
  | zero => exact absurd HA.out (by simp [laws_a2Stand.j0])
  | succ kj3 =>
   have H := HA.out; clear HA; simp only [laws_a2Stand.j0] at H; by_cases c13 : x37_3 = true
   ·subst c13; (have H1 : (some false) = some r := by rw [if_pos rfl] at H; exact H); clear H; have H := H1; clear H1; obtain rfl := Option.some.inj H; go_wp2; go_ret; exact ⟨by first | rfl | (simp [errW_none, errW_some] <;> rfl) | (simp [*, errW_none, errW_some] <;> rfl), by repeat (first | (with_reducible first | exact HB.out | apply ae | apply ab | apply ac) | exact HB.out)⟩
   ·replace c13 := Bool.eq_false_iff.mpr c13; subst c13; (have H1 : (laws_a2Stand.l0 kj3 l0 l1 a2 1) = some r := by rw [if_neg (show ¬ (false = true) by decide)] at H; exact H); clear H; have H := H1; clear H1; have H' := aa H; clear H; go_wp2
    go_loopg [7] kj3 (fun kq v7 w' => ∃ (x7_2 : Int), v7 = .int .i64 x7_2 ∧ Aside0 (laws_a2Stand.l0 kq l0 l1 a2 x7_2 = some r) ∧ Aside0 (kq ≤ kj3) ∧ Aside0 (Below w.heap.size w w'))
    case atStart => exact ⟨(1), (by first | rfl | (simp; done) | (simp [*]; done)), H', ⟨Nat.le_refl _⟩, ⟨by repeat (first | (with_reducible first | exact HB.out | apply ae | apply ab | apply ac) | exact HB.out)⟩⟩
    case round =>
     clear H'; (try clear c1); (try clear p1); (try clear q1); (try clear hx1); (try clear qi1); (try clear p2); (try clear c5); (try clear c5b0); (try clear c5b1); (try clear p6); (try clear c7); (try clear c8); (try clear c8b0); (try clear c8b1); (try clear c9); (try clear c9b0); (try clear c9b1); (try clear c10); (try clear c11); (try clear c11b0); (try clear c12); (try clear c12b0); (try clear c13); (try clear hx196_0); (try clear hx197_0); (try clear p1); (try clear p196); (try clear p197); (try clear p2); (try clear p6); (try clear q1); (try clear q196); (try clear q197); obtain ⟨x7_2, rfl, HA, HK2, HB⟩ := hrel
     cases gk with
     | zero => exact absurd HA.out (by simp [laws_a2Stand.l0])
     | succ k2 =>
      have H := HA.out; clear HA; simp only [laws_a2Stand.l0] at H; by_cases c14 : x7_2 < (l1.length : Int)
      ·rw [if_pos c14] at H; have c14b0 : decide (x7_2 < (l1.length : Int)) = true := decide_eq_true c14; clear c14; obtain ⟨ji15, hji15⟩ : ∃ j_ : Int, (wrap64 (x7_2 - 1)) = j_ := ⟨_, rfl⟩; (replace H : (if 0 ≤ (ji15) then (if (ji15) < (l1.length : Int) then (if 0 ≤ x7_2 then ((spec_StaysWithin.f k2 l0 (rd l1 (ji15)) (rd l1 x7_2) a2).bind fun bt200 => (if bt200.2 = 0 then (if bt200.1 = true then (laws_a2Stand.l0 k2 l0 l1 a2 (wrap64 (x7_2 + 1))) else (some false)) else (some false))) else (none)) else (none)) else (none)) = some r := by first | (rw [hji15] at H; exact H) | (simp only [hji15] at H ⊢; exact H)); have hji15w : (IntKind.i64.wrap (x7_2 - 1)) = ji15 := (i64_w _).trans hji15; by_cases c16 : 0 ≤ (ji15)
       ·rw [if_pos c16] at H; have c16b0 : decide (0 ≤ (ji15)) = true := decide_eq_true c16; clear c16; by_cases c17 : (ji15) < (l1.length : Int)
        ·rw [if_pos c17] at H; have c17b0 : decide ((ji15) < (l1.length : Int)) = true := decide_eq_true c17; clear c17; by_cases c18 : 0 ≤ x7_2
         ·rw [if_pos c18] at H; have c18b0 : decide (0 ≤ x7_2) = true := decide_eq_true c18; clear c18; replace H := bf.mp H; obtain ⟨⟨t200, t201⟩, A190, H⟩ := H; (try dsimp only at H); have A19 := aa A190; clear A190; by_cases c20 : t201 = 0
          ·rw [if_pos c20] at H; have c20b0 : (t201 == 0) = true := beq_iff_eq.mpr c20; have c20b1 : (t201 != 0) = false := bne_eq_false_iff_eq.mpr c20; clear c20; by_cases c21 : t200 = true
           ·subst c21; (have H1 : (laws_a2Stand.l0 k2 l0 l1 a2 (wrap64 (x7_2 + 1))) = some r := by rw [if_pos rfl] at H; exact H); clear H; have H := H1; clear H1; have H' := aa H; clear H; (try go_wp2); have n0_ := aa (ac HB.out); clear HB; have HB := n0_; clear n0_; have p198 : 0 ≤ ((ji15) : Int) := of_decide_eq_true (by first | (with_reducible assumption) | assumption); have q198 : (ji15) < (l1.length : Int) := of_decide_eq_true (by first | (with_reducible assumption) | assumption); obtain ⟨ad198, e198, hx198_0⟩ := ax HR1.out (ji15) p198 q198; have hw198_0 := hx198_0
            cases e198
            replace hx198_0 := (HB.out.cell (World.block_lt_of_cell? w _ hx198_0)).trans hx198_0; replace p198 := eq_true p198; replace q198 := eq_true q198; have p199 : 0 ≤ (x7_2 : Int) := of_decide_eq_true (by first | (with_reducible assumption) | assumption); have q199 : x7_2 < (l1.length : Int) := of_decide_eq_true (by first | (with_reducible assumption) | assumption); obtain ⟨ad199, e199, hx199_0⟩ := ax HR1.out x7_2 p199 q199; have hw199_0 := hx199_0; obtain rfl : ad198 = ad199 := (by injection e199); replace hx199_0 := (HB.out.cell (World.block_lt_of_cell? w _ hx199_0)).trans hx199_0; replace p199 := eq_true p199; replace q199 := eq_true q199; refine start_ (n := 17) (S := fun w' => w'.cell? (ad198.add ((ji15)).toNat) = some (.int .i64 (rd l1 (ji15))) ∧ w'.cell? (ad198.add (x7_2).toNat) = some (.int .i64 (rd l1 x7_2))) (ds := []) #[false, false, false, false, false, false, false, false, false, false, false, false, false, false, false, false, false] (by kernel_rfl) rfl rfl ⟨((HB.out.cell (World.block_lt_of_cell? w _ hw198_0)).trans hw198_0), ((HB.out.cell (World.block_lt_of_cell? w _ hw199_0)).trans hw199_0)⟩ (fun hHeld => ?_); refine with_tabW laws_a2Stand.tab6 laws_a2Stand.bits6 (fun HT_ HW_ => ?_); generalize wr.drew = w22 at HB hx198_0 hx199_0 hHeld ⊢; refine pure_ (i := 0) (N := some 45) (v := ?_) (a' := ?_) #[true, false, false, false, false, false, false, false, false, false, false, false, false, false, false, false, false] rfl rfl (any_of HT_.out (by kernel_rfl)) (fun _ _ _ h => h) (Or.inl ⟨by rfl, ?_⟩) ?_ ?_; rotate_left
            ·intro w'; go_simp; (with_reducible rfl)
            rotate_left
            ·simp only [Act.put, a7, a8, a9, i64_w, i32_w]; rfl
            refine pure_ (i := 1) (N := some 46) (v := ?_) (a' := ?_) #[true, true, false, false, false, false, false, false, false, false, false, false, false, false, false, false, false] rfl rfl (any_of HT_.out (by kernel_rfl)) (fun _ _ _ h => h) (Or.inl ⟨by rfl, ?_⟩) ?_ ?_; rotate_left
            ·intro w'; go_simp; (with_reducible rfl)
            rotate_left
            ·simp only [Act.put, a7, a8, a9, i64_w, i32_w]; rfl
            refine pure_ (i := 2) (N := some 47) (v := ?_) (a' := ?_) #[true, true, true, false, false, false, false, false, false, false, false, false, false, false, false, false, false] rfl rfl (any_of HT_.out (by kernel_rfl)) (fun _ _ _ h => h) (Or.inl ⟨by rfl, ?_⟩) ?_ ?_; rotate_left
            ·intro w'; go_simp; (with_reducible rfl)
            rotate_left
            ·simp only [Act.put, a7, a8, a9, i64_w, i32_w]; rfl
            refine pure_ (i := 3) (N := some 48) (v := ?_) (a' := ?_) #[true, true, true, true, false, false, false, false, false, false, false, false, false, false, false, false, false] rfl rfl (any_of HT_.out (by kernel_rfl)) (fun _ _ _ h => h) (Or.inl ⟨by rfl, ?_⟩) ?_ ?_; rotate_left
            ·intro w'; go_simp; (with_reducible rfl)
            rotate_left
            ·simp only [Act.put, a7, a8, a9, i64_w, i32_w]; rfl
            refine pure_ (i := 4) (N := some 49) (v := ?_) (a' := ?_) #[true, true, true, true, true, false, false, false, false, false, false, false, false, false, false, false, false] rfl rfl (any_of HT_.out (by kernel_rfl)) (fun _ _ _ h => h) (Or.inl ⟨by rfl, ?_⟩) ?_ ?_; rotate_left
            ·intro w'; go_simp; (with_reducible rfl)
            rotate_left
            ·simp only [Act.put, a7, a8, a9, i64_w, i32_w]; rfl
            refine pure_ (i := 6) (N := some 51) (v := ?_) (a' := ?_) #[true, true, true, true, true, false, true, false, false, false, false, false, false, false, false, false, false] rfl rfl (any_of HT_.out (by kernel_rfl)) (fun _ _ _ h => h) (Or.inl ⟨by rfl, ?_⟩) ?_ ?_; rotate_left
            ·intro w'; go_simp; (with_reducible rfl)
            rotate_left
            ·simp only [Act.put, a7, a8, a9, i64_w, i32_w]; rfl
            refine pure_ (i := 7) (N := some 52) (v := ?_) (a' := ?_) #[true, true, true, true, true, false, true, true, false, false, false, false, false, false, false, false, false] rfl rfl (any_of HT_.out (by kernel_rfl)) (fun _ _ _ h => h) (Or.inl ⟨by rfl, ?_⟩) ?_ ?_; rotate_left
            ·intro w'; go_simp; (with_reducible rfl)
            rotate_left
            ·simp only [Act.put, a7, a8, a9, i64_w, i32_w]; rfl
            refine pure_ (i := 8) (N := some 53) (v := ?_) (a' := ?_) #[true, true, true, true, true, false, true, true, true, false, false, false, false, false, false, false, false] rfl rfl (any_of HT_.out (by kernel_rfl)) (fun _ _ _ h => h) (Or.inl ⟨by rfl, ?_⟩) ?_ ?_; rotate_left
            ·intro w'; go_simp; (with_reducible rfl)
            rotate_left
            ·simp only [Act.put, a7, a8, a9, i64_w, i32_w]; rfl
            refine pure_ (i := 10) (N := some 55) (v := ?_) (a' := ?_) #[true, true, true, true, true, false, true, true, true, false, true, false, false, false, false, false, false] rfl rfl (any_of HT_.out (by kernel_rfl)) (fun _ _ _ h => h) (Or.inl ⟨by rfl, ?_⟩) ?_ ?_; rotate_left
            ·intro w'; go_simp; (with_reducible rfl)
            rotate_left
            ·simp only [Act.put, a7, a8, a9, i64_w, i32_w]; rfl
            refine take_ (i := 5) (N := some 50) (v := ?_) (a' := ?_) #[true, true, true, true, true, true, true, true, true, false, true, false, false, false, false, false, false] rfl rfl (take_ofW HT_.out HW_.out (by kernel_rfl)) (fun _ _ _ h => h) (Or.inl ⟨by rfl, ?_⟩) hHeld ?_ ?_; rotate_left
            ·rintro w' ⟨s0, s1⟩; go_simp; (with_reducible rfl)
            rotate_left
            ·simp only [Act.put, a7, a8, a9, i64_w, i32_w]; rfl
            refine take_ (i := 9) (N := some 54) (v := ?_) (a' := ?_) #[true, true, true, true, true, true, true, true, true, true, true, false, false, false, false, false, false] rfl rfl (take_ofW HT_.out HW_.out (by kernel_rfl)) (fun _ _ _ h => h) (Or.inl ⟨by rfl, ?_⟩) hHeld ?_ ?_; rotate_left
            ·rintro w' ⟨s0, s1⟩; go_simp; (with_reducible rfl)
            rotate_left
            ·simp only [Act.put, a7, a8, a9, i64_w, i32_w]; rfl
            refine one_ (i := 11) (N := some 56) #[true, true, true, true, true, true, true, true, true, true, true, true, false, false, false, false, false] rfl rfl (one_of HT_.out (by kernel_rfl)) (by decide) (fun K hK => ?_); refine goes_ Tryz.func36 (by kernel_rfl) rfl #[.slice A0 l0.length c0, .int .i64 (rd l1 (ji15)), .int .i64 (rd l1 x7_2), .int .i64 a2] (by rfl) rfl rfl (by (try simp only [b3, b4, b5]); first | done | (simp only [hji15]; rfl) | rfl | (simp only [b0, b2]; rfl)) ?_; (with_reducible refine (spec_StaysWithin.calls k2 _ _ l0 (rd l1 (ji15)) (rd l1 x7_2) a2 true t201 _ ?side1 ?side2 A19.out).mono ?_); (case side1 => repeat (first | exact (ay HR0.out HB.out) | (with_reducible refine ar ?_ _) | (with_reducible refine au ?_ _) | (with_reducible refine av ?_))); (case side2 => exact HC0.out); rintro e w23 ⟨rfl, hb⟩; refine ⟨_, rfl, ?_⟩; have n0_ := aa (af (by repeat (first | (with_reducible first | exact HB.out | apply ae | apply ab | apply ac) | exact HB.out)) hb); clear HB; have HB := n0_; clear n0_; (try clear hb); (try clear hb2); (try clear hk); (try clear hi); refine hK.out _ _ ⟨((HB.out.cell (World.block_lt_of_cell? w _ hw198_0)).trans hw198_0), ((HB.out.cell (World.block_lt_of_cell? w _ hw199_0)).trans hw199_0)⟩ (fun hHeld => ?_); clear hK K; refine norm_ (a' := ?_) ?_ ?_; rotate_left
            ·show Act.put _ (some 56) _ = _; simp only [Act.put, a7, a8, a9, i64_w, i32_w]; rfl
            refine pure_ (i := 12) (N := some 44) (v := ?_) (a' := ?_) #[true, true, true, true, true, true, true, true, true, true, true, true, true, false, false, false, false] rfl rfl (any_of HT_.out (by kernel_rfl)) (fun _ _ _ h => h) (Or.inl ⟨by rfl, ?_⟩) ?_ ?_; rotate_left
            ·intro w'; go_simp; (with_reducible rfl)
            rotate_left
            ·simp only [Act.put, a7, a8, a9, i64_w, i32_w]; rfl
            refine pure_ (i := 13) (N := some 57) (v := ?_) (a' := ?_) #[true, true, true, true, true, true, true, true, true, true, true, true, true, true, false, false, false] rfl rfl (any_of HT_.out (by kernel_rfl)) (fun _ _ _ h => h) (Or.inl ⟨by rfl, ?_⟩) ?_ ?_; rotate_left
            ·intro w'; go_simp; (with_reducible rfl)
            rotate_left
            ·simp only [Act.put, a7, a8, a9, i64_w, i32_w]; rfl
            refine pure_ (i := 14) (N := some 58) (v := ?_) (a' := ?_) #[true, true, true, true, true, true, true, true, true, true, true, true, true, true, true, false, false] rfl rfl (any_of HT_.out (by kernel_rfl)) (fun _ _ _ h => h) (Or.inl ⟨by rfl, ?_⟩) ?_ ?_; rotate_left
            ·intro w'; go_simp; (with_reducible rfl)
            rotate_left
            ·simp only [Act.put, a7, a8, a9, i64_w, i32_w]; rfl
            refine pure_ (i := 15) (N := some 8) (v := ?_) (a' := ?_) #[true, true, true, true, true, true, true, true, true, true, true, true, true, true, true, true, false] rfl rfl (any_of HT_.out (by kernel_rfl)) (fun _ _ _ h => h) (Or.inl ⟨by rfl, ?_⟩) ?_ ?_; rotate_left
            ·intro w'; go_simp; (with_reducible rfl)
            rotate_left
            ·simp only [Act.put, a7, a8, a9, i64_w, i32_w]; rfl
            refine pure_ (i := 16) (N := some 9) (v := ?_) (a' := ?_) #[true, true, true, true, true, true, true, true, true, true, true, true, true, true, true, true, true] rfl rfl (any_of HT_.out (by kernel_rfl)) (fun _ _ _ h => h) (Or.inl ⟨by rfl, ?_⟩) ?_ ?_; rotate_left
            ·intro w'; go_simp; (with_reducible rfl)
            rotate_left
            ·simp only [Act.put, a7, a8, a9, i64_w, i32_w]; rfl
            refine done_ (done_of HT_.out (by kernel_rfl)) ?_; (try go_wp2); go_roundg k2
            case measure => have := HJ3.out; have := HK2.out; omega
            case rel => exact ⟨(wrap64 (x7_2 + 1)), (by first | rfl | (simp; done) | (simp [*]; done)), H', ⟨by have := HJ3.out; have := HK2.out; omega⟩, ⟨by repeat (first | (with_reducible first | exact HB.out | apply ae | apply ab | apply ac) | exact HB.out)⟩⟩
           ·replace c21 := Bool.eq_false_iff.mpr c21; subst c21; (have H1 : (some false) = some r := by rw [if_neg (show ¬ (false = true) by decide)] at H; exact H); clear H; have H := H1; clear H1; obtain rfl := Option.some.inj H; (try go_wp2); have n0_ := aa (ac HB.out); clear HB; have HB := n0_; clear n0_; have p198 : 0 ≤ ((ji15) : Int) := of_decide_eq_true (by first | (with_reducible assumption) | assumption); have q198 : (ji15) < (l1.length : Int) := of_decide_eq_true (by first | (with_reducible assumption) | assumption); obtain ⟨ad198, e198, hx198_0⟩ := ax HR1.out (ji15) p198 q198; have hw198_0 := hx198_0
            cases e198
            replace hx198_0 := (HB.out.cell (World.block_lt_of_cell? w _ hx198_0)).trans hx198_0; replace p198 := eq_true p198; replace q198 := eq_true q198; have p199 : 0 ≤ (x7_2 : Int) := of_decide_eq_true (by first | (with_reducible assumption) | assumption); have q199 : x7_2 < (l1.length : Int) := of_decide_eq_true (by first | (with_reducible assumption) | assumption); obtain ⟨ad199, e199, hx199_0⟩ := ax HR1.out x7_2 p199 q199; have hw199_0 := hx199_0; obtain rfl : ad198 = ad199 := (by injection e199); replace hx199_0 := (HB.out.cell (World.block_lt_of_cell? w _ hx199_0)).trans hx199_0; replace p199 := eq_true p199; replace q199 := eq_true q199; refine start_ (n := 17) (S := fun w' => w'.cell? (ad198.add ((ji15)).toNat) = some (.int .i64 (rd l1 (ji15))) ∧ w'.cell? (ad198.add (x7_2).toNat) = some (.int .i64 (rd l1 x7_2))) (ds := []) #[false, false, false, false, false, false, false, false, false, false, false, false, false, false, false, false, false] (by kernel_rfl) rfl rfl ⟨((HB.out.cell (World.block_lt_of_cell? w _ hw198_0)).trans hw198_0), ((HB.out.cell (World.block_lt_of_cell? w _ hw199_0)).trans hw199_0)⟩ (fun hHeld => ?_); refine with_tabW laws_a2Stand.tab6 laws_a2Stand.bits6 (fun HT_ HW_ => ?_); generalize wr.drew = w24 at HB hx198_0 hx199_0 hHeld ⊢; refine pure_ (i := 0) (N := some 45) (v := ?_) (a' := ?_) #[true, false, false, false, false, false, false, false, false, false, false, false, false, false, false, false, false] rfl rfl (any_of HT_.out (by kernel_rfl)) (fun _ _ _ h => h) (Or.inl ⟨by rfl, ?_⟩) ?_ ?_; rotate_left
            ·intro w'; go_simp; (with_reducible rfl)
            rotate_left
            ·simp only [Act.put, a7, a8, a9, i64_w, i32_w]; rfl
            refine pure_ (i := 1) (N := some 46) (v := ?_) (a' := ?_) #[true, true, false, false, false, false, false, false, false, false, false, false, false, false, false, false, false] rfl rfl (any_of HT_.out (by kernel_rfl)) (fun _ _ _ h => h) (Or.inl ⟨by rfl, ?_⟩) ?_ ?_; rotate_left
            ·intro w'; go_simp; (with_reducible rfl)
            rotate_left
            ·simp only [Act.put, a7, a8, a9, i64_w, i32_w]; rfl
            refine pure_ (i := 2) (N := some 47) (v := ?_) (a' := ?_) #[true, true, true, false, false, false, false, false, false, false, false, false, false, false, false, false, false] rfl rfl (any_of HT_.out (by kernel_rfl)) (fun _ _ _ h => h) (Or.inl ⟨by rfl, ?_⟩) ?_ ?_; rotate_left
            ·intro w'; go_simp; (with_reducible rfl)
            rotate_left
            ·simp only [Act.put, a7, a8, a9, i64_w, i32_w]; rfl
            refine pure_ (i := 3) (N := some 48) (v := ?_) (a' := ?_) #[true, true, true, true, false, false, false, false, false, false, false, false, false, false, false, false, false] rfl rfl (any_of HT_.out (by kernel_rfl)) (fun _ _ _ h => h) (Or.inl ⟨by rfl, ?_⟩) ?_ ?_; rotate_left
            ·intro w'; go_simp; (with_reducible rfl)
            rotate_left
            ·simp only [Act.put, a7, a8, a9, i64_w, i32_w]; rfl
            refine pure_ (i := 4) (N := some 49) (v := ?_) (a' := ?_) #[true, true, true, true, true, false, false, false, false, false, false, false, false, false, false, false, false] rfl rfl (any_of HT_.out (by kernel_rfl)) (fun _ _ _ h => h) (Or.inl ⟨by rfl, ?_⟩) ?_ ?_; rotate_left
            ·intro w'; go_simp; (with_reducible rfl)
            rotate_left
            ·simp only [Act.put, a7, a8, a9, i64_w, i32_w]; rfl
            refine pure_ (i := 6) (N := some 51) (v := ?_) (a' := ?_) #[true, true, true, true, true, false, true, false, false, false, false, false, false, false, false, false, false] rfl rfl (any_of HT_.out (by kernel_rfl)) (fun _ _ _ h => h) (Or.inl ⟨by rfl, ?_⟩) ?_ ?_; rotate_left
            ·intro w'; go_simp; (with_reducible rfl)
            rotate_left
            ·simp only [Act.put, a7, a8, a9, i64_w, i32_w]; rfl
            refine pure_ (i := 7) (N := some 52) (v := ?_) (a' := ?_) #[true, true, true, true, true, false, true, true, false, false, false, false, false, false, false, false, false] rfl rfl (any_of HT_.out (by kernel_rfl)) (fun _ _ _ h => h) (Or.inl ⟨by rfl, ?_⟩) ?_ ?_; rotate_left
            ·intro w'; go_simp; (with_reducible rfl)
            rotate_left
            ·simp only [Act.put, a7, a8, a9, i64_w, i32_w]; rfl
            refine pure_ (i := 8) (N := some 53) (v := ?_) (a' := ?_) #[true, true, true, true, true, false, true, true, true, false, false, false, false, false, false, false, false] rfl rfl (any_of HT_.out (by kernel_rfl)) (fun _ _ _ h => h) (Or.inl ⟨by rfl, ?_⟩) ?_ ?_; rotate_left
            ·intro w'; go_simp; (with_reducible rfl)
            rotate_left
            ·simp only [Act.put, a7, a8, a9, i64_w, i32_w]; rfl
            refine pure_ (i := 10) (N := some 55) (v := ?_) (a' := ?_) #[true, true, true, true, true, false, true, true, true, false, true, false, false, false, false, false, false] rfl rfl (any_of HT_.out (by kernel_rfl)) (fun _ _ _ h => h) (Or.inl ⟨by rfl, ?_⟩) ?_ ?_; rotate_left
            ·intro w'; go_simp; (with_reducible rfl)
            rotate_left
            ·simp only [Act.put, a7, a8, a9, i64_w, i32_w]; rfl
            refine take_ (i := 5) (N := some 50) (v := ?_) (a' := ?_) #[true, true, true, true, true, true, true, true, true, false, true, false, false, false, false, false, false] rfl rfl (take_ofW HT_.out HW_.out (by kernel_rfl)) (fun _ _ _ h => h) (Or.inl ⟨by rfl, ?_⟩) hHeld ?_ ?_; rotate_left
            ·rintro w' ⟨s0, s1⟩; go_simp; (with_reducible rfl)
            rotate_left
            ·simp only [Act.put, a7, a8, a9, i64_w, i32_w]; rfl
            refine take_ (i := 9) (N := some 54) (v := ?_) (a' := ?_) #[true, true, true, true, true, true, true, true, true, true, true, false, false, false, false, false, false] rfl rfl (take_ofW HT_.out HW_.out (by kernel_rfl)) (fun _ _ _ h => h) (Or.inl ⟨by rfl, ?_⟩) hHeld ?_ ?_; rotate_left
            ·rintro w' ⟨s0, s1⟩; go_simp; (with_reducible rfl)
            rotate_left
            ·simp only [Act.put, a7, a8, a9, i64_w, i32_w]; rfl
            refine one_ (i := 11) (N := some 56) #[true, true, true, true, true, true, true, true, true, true, true, true, false, false, false, false, false] rfl rfl (one_of HT_.out (by kernel_rfl)) (by decide) (fun K hK => ?_); refine goes_ Tryz.func36 (by kernel_rfl) rfl #[.slice A0 l0.length c0, .int .i64 (rd l1 (ji15)), .int .i64 (rd l1 x7_2), .int .i64 a2] (by rfl) rfl rfl (by (try simp only [b3, b4, b5]); first | done | (simp only [hji15]; rfl) | rfl | (simp only [b0, b2]; rfl)) ?_; (with_reducible refine (spec_StaysWithin.calls k2 _ _ l0 (rd l1 (ji15)) (rd l1 x7_2) a2 false t201 _ ?side1 ?side2 A19.out).mono ?_); (case side1 => repeat (first | exact (ay HR0.out HB.out) | (with_reducible refine ar ?_ _) | (with_reducible refine au ?_ _) | (with_reducible refine av ?_))); (case side2 => exact HC0.out); rintro e w25 ⟨rfl, hb⟩; refine ⟨_, rfl, ?_⟩; have n0_ := aa (af (by repeat (first | (with_reducible first | exact HB.out | apply ae | apply ab | apply ac) | exact HB.out)) hb); clear HB; have HB := n0_; clear n0_; (try clear hb); (try clear hb2); (try clear hk); (try clear hi); refine hK.out _ _ ⟨((HB.out.cell (World.block_lt_of_cell? w _ hw198_0)).trans hw198_0), ((HB.out.cell (World.block_lt_of_cell? w _ hw199_0)).trans hw199_0)⟩ (fun hHeld => ?_); clear hK K; refine norm_ (a' := ?_) ?_ ?_; rotate_left
            ·show Act.put _ (some 56) _ = _; simp only [Act.put, a7, a8, a9, i64_w, i32_w]; rfl
            refine pure_ (i := 12) (N := some 44) (v := ?_) (a' := ?_) #[true, true, true, true, true, true, true, true, true, true, true, true, true, false, false, false, false] rfl rfl (any_of HT_.out (by kernel_rfl)) (fun _ _ _ h => h) (Or.inl ⟨by rfl, ?_⟩) ?_ ?_; rotate_left
            ·intro w'; go_simp; (with_reducible rfl)
            rotate_left
            ·simp only [Act.put, a7, a8, a9, i64_w, i32_w]; rfl
            refine pure_ (i := 13) (N := some 57) (v := ?_) (a' := ?_) #[true, true, true, true, true, true, true, true, true, true, true, true, true, true, false, false, false] rfl rfl (any_of HT_.out (by kernel_rfl)) (fun _ _ _ h => h) (Or.inl ⟨by rfl, ?_⟩) ?_ ?_; rotate_left
            ·intro w'; go_simp; (with_reducible rfl)
            rotate_left
            ·simp only [Act.put, a7, a8, a9, i64_w, i32_w]; rfl
            refine pure_ (i := 14) (N := some 58) (v := ?_) (a' := ?_) #[true, true, true, true, true, true, true, true, true, true, true, true, true, true, true, false, false] rfl rfl (any_of HT_.out (by kernel_rfl)) (fun _ _ _ h => h) (Or.inl ⟨by rfl, ?_⟩) ?_ ?_; rotate_left
            ·intro w'; go_simp; (with_reducible rfl)
            rotate_left
            ·simp only [Act.put, a7, a8, a9, i64_w, i32_w]; rfl
            refine pure_ (i := 15) (N := some 8) (v := ?_) (a' := ?_) #[true, true, true, true, true, true, true, true, true, true, true, true, true, true, true, true, false] rfl rfl (any_of HT_.out (by kernel_rfl)) (fun _ _ _ h => h) (Or.inl ⟨by rfl, ?_⟩) ?_ ?_; rotate_left
            ·intro w'; go_simp; (with_reducible rfl)
            rotate_left
            ·simp only [Act.put, a7, a8, a9, i64_w, i32_w]; rfl
            refine pure_ (i := 16) (N := some 9) (v := ?_) (a' := ?_) #[true, true, true, true, true, true, true, true, true, true, true, true, true, true, true, true, true] rfl rfl (any_of HT_.out (by kernel_rfl)) (fun _ _ _ h => h) (Or.inl ⟨by rfl, ?_⟩) ?_ ?_; rotate_left
            ·intro w'; go_simp; (with_reducible rfl)
            rotate_left
            ·simp only [Act.put, a7, a8, a9, i64_w, i32_w]; rfl
            refine done_ (done_of HT_.out (by kernel_rfl)) ?_; (try go_wp2); go_ret; exact ⟨by first | rfl | (simp [errW_none, errW_some] <;> rfl) | (simp only [← hji15]; first | rfl | (simp [errW_none, errW_some] <;> rfl)) | (simp [*, errW_none, errW_some] <;> rfl), by repeat (first | (with_reducible first | exact HB.out | apply ae | apply ab | apply ac) | exact HB.out)⟩
          ·rw [if_neg c20] at H; have c20b0 : (t201 == 0) = false := beq_eq_false_iff_ne.mpr c20; have c20b1 : (t201 != 0) = true := bne_iff_ne.mpr c20; obtain rfl := Option.some.inj H; (try go_wp2); have n0_ := aa (ac HB.out); clear HB; have HB := n0_; clear n0_; have p198 : 0 ≤ ((ji15) : Int) := of_decide_eq_true (by first | (with_reducible assumption) | assumption); have q198 : (ji15) < (l1.length : Int) := of_decide_eq_true (by first | (with_reducible assumption) | assumption); obtain ⟨ad198, e198, hx198_0⟩ := ax HR1.out (ji15) p198 q198; have hw198_0 := hx198_0
           cases e198
           replace hx198_0 := (HB.out.cell (World.block_lt_of_cell? w _ hx198_0)).trans hx198_0; replace p198 := eq_true p198; replace q198 := eq_true q198; have p199 : 0 ≤ (x7_2 : Int) := of_decide_eq_true (by first | (with_reducible assumption) | assumption); have q199 : x7_2 < (l1.length : Int) := of_decide_eq_true (by first | (with_reducible assumption) | assumption); obtain ⟨ad199, e199, hx199_0⟩ := ax HR1.out x7_2 p199 q199; have hw199_0 := hx199_0; obtain rfl : ad198 = ad199 := (by injection e199); replace hx199_0 := (HB.out.cell (World.block_lt_of_cell? w _ hx199_0)).trans hx199_0; replace p199 := eq_true p199; replace q199 := eq_true q199; refine start_ (n := 17) (S := fun w' => w'.cell? (ad198.add ((ji15)).toNat) = some (.int .i64 (rd l1 (ji15))) ∧ w'.cell? (ad198.add (x7_2).toNat) = some (.int .i64 (rd l1 x7_2))) (ds := []) #[false, false, false, false, false, false, false, false, false, false, false, false, false, false, false, false, false] (by kernel_rfl) rfl rfl ⟨((HB.out.cell (World.block_lt_of_cell? w _ hw198_0)).trans hw198_0), ((HB.out.cell (World.block_lt_of_cell? w _ hw199_0)).trans hw199_0)⟩ (fun hHeld => ?_); refine with_tabW laws_a2Stand.tab6 laws_a2Stand.bits6 (fun HT_ HW_ => ?_); generalize wr.drew = w26 at HB hx198_0 hx199_0 hHeld ⊢; refine pure_ (i := 0) (N := some 45) (v := ?_) (a' := ?_) #[true, false, false, false, false, false, false, false, false, false, false, false, false, false, false, false, false] rfl rfl (any_of HT_.out (by kernel_rfl)) (fun _ _ _ h => h) (Or.inl ⟨by rfl, ?_⟩) ?_ ?_; rotate_left
           ·intro w'; go_simp; (with_reducible rfl)
           rotate_left
           ·simp only [Act.put, a7, a8, a9, i64_w, i32_w]; rfl
           refine pure_ (i := 1) (N := some 46) (v := ?_) (a' := ?_) #[true, true, false, false, false, false, false, false, false, false, false, false, false, false, false, false, false] rfl rfl (any_of HT_.out (by kernel_rfl)) (fun _ _ _ h => h) (Or.inl ⟨by rfl, ?_⟩) ?_ ?_; rotate_left
           ·intro w'; go_simp; (with_reducible rfl)
           rotate_left
           ·simp only [Act.put, a7, a8, a9, i64_w, i32_w]; rfl
           refine pure_ (i := 2) (N := some 47) (v := ?_) (a' := ?_) #[true, true, true, false, false, false, false, false, false, false, false, false, false, false, false, false, false] rfl rfl (any_of HT_.out (by kernel_rfl)) (fun _ _ _ h => h) (Or.inl ⟨by rfl, ?_⟩) ?_ ?_; rotate_left
           ·intro w'; go_simp; (with_reducible rfl)
           rotate_left
           ·simp only [Act.put, a7, a8, a9, i64_w, i32_w]; rfl
           refine pure_ (i := 3) (N := some 48) (v := ?_) (a' := ?_) #[true, true, true, true, false, false, false, false, false, false, false, false, false, false, false, false, false] rfl rfl (any_of HT_.out (by kernel_rfl)) (fun _ _ _ h => h) (Or.inl ⟨by rfl, ?_⟩) ?_ ?_; rotate_left
           ·intro w'; go_simp; (with_reducible rfl)
           rotate_left
           ·simp only [Act.put, a7, a8, a9, i64_w, i32_w]; rfl
           refine pure_ (i := 4) (N := some 49) (v := ?_) (a' := ?_) #[true, true, true, true, true, false, false, false, false, false, false, false, false, false, false, false, false] rfl rfl (any_of HT_.out (by kernel_rfl)) (fun _ _ _ h => h) (Or.inl ⟨by rfl, ?_⟩) ?_ ?_; rotate_left
           ·intro w'; go_simp; (with_reducible rfl)
           rotate_left
           ·simp only [Act.put, a7, a8, a9, i64_w, i32_w]; rfl
           refine pure_ (i := 6) (N := some 51) (v := ?_) (a' := ?_) #[true, true, true, true, true, false, true, false, false, false, false, false, false, false, false, false, false] rfl rfl (any_of HT_.out (by kernel_rfl)) (fun _ _ _ h => h) (Or.inl ⟨by rfl, ?_⟩) ?_ ?_; rotate_left
           ·intro w'; go_simp; (with_reducible rfl)
           rotate_left
           ·simp only [Act.put, a7, a8, a9, i64_w, i32_w]; rfl
           refine pure_ (i := 7) (N := some 52) (v := ?_) (a' := ?_) #[true, true, true, true, true, false, true, true, false, false, false, false, false, false, false, false, false] rfl rfl (any_of HT_.out (by kernel_rfl)) (fun _ _ _ h => h) (Or.inl ⟨by rfl, ?_⟩) ?_ ?_; rotate_left
           ·intro w'; go_simp; (with_reducible rfl)
           rotate_left
           ·simp only [Act.put, a7, a8, a9, i64_w, i32_w]; rfl
           refine pure_ (i := 8) (N := some 53) (v := ?_) (a' := ?_) #[true, true, true, true, true, false, true, true, true, false, false, false, false, false, false, false, false] rfl rfl (any_of HT_.out (by kernel_rfl)) (fun _ _ _ h => h) (Or.inl ⟨by rfl, ?_⟩) ?_ ?_; rotate_left
           ·intro w'; go_simp; (with_reducible rfl)
           rotate_left
           ·simp only [Act.put, a7, a8, a9, i64_w, i32_w]; rfl
           refine pure_ (i := 10) (N := some 55) (v := ?_) (a' := ?_) #[true, true, true, true, true, false, true, true, true, false, true, false, false, false, false, false, false] rfl rfl (any_of HT_.out (by kernel_rfl)) (fun _ _ _ h => h) (Or.inl ⟨by rfl, ?_⟩) ?_ ?_; rotate_left
           ·intro w'; go_simp; (with_reducible rfl)
           rotate_left
           ·simp only [Act.put, a7, a8, a9, i64_w, i32_w]; rfl
           refine take_ (i := 5) (N := some 50) (v := ?_) (a' := ?_) #[true, true, true, true, true, true, true, true, true, false, true, false, false, false, false, false, false] rfl rfl (take_ofW HT_.out HW_.out (by kernel_rfl)) (fun _ _ _ h => h) (Or.inl ⟨by rfl, ?_⟩) hHeld ?_ ?_; rotate_left
           ·rintro w' ⟨s0, s1⟩; go_simp; (with_reducible rfl)
           rotate_left
           ·simp only [Act.put, a7, a8, a9, i64_w, i32_w]; rfl
           refine take_ (i := 9) (N := some 54) (v := ?_) (a' := ?_) #[true, true, true, true, true, true, true, true, true, true, true, false, false, false, false, false, false] rfl rfl (take_ofW HT_.out HW_.out (by kernel_rfl)) (fun _ _ _ h => h) (Or.inl ⟨by rfl, ?_⟩) hHeld ?_ ?_; rotate_left
           ·rintro w' ⟨s0, s1⟩; go_simp; (with_reducible rfl)
           rotate_left
           ·simp only [Act.put, a7, a8, a9, i64_w, i32_w]; rfl
           refine one_ (i := 11) (N := some 56) #[true, true, true, true, true, true, true, true, true, true, true, true, false, false, false, false, false] rfl rfl (one_of HT_.out (by kernel_rfl)) (by decide) (fun K hK => ?_); refine goes_ Tryz.func36 (by kernel_rfl) rfl #[.slice A0 l0.length c0, .int .i64 (rd l1 (ji15)), .int .i64 (rd l1 x7_2), .int .i64 a2] (by rfl) rfl rfl (by (try simp only [b3, b4, b5]); first | done | (simp only [hji15]; rfl) | rfl | (simp only [b0, b2]; rfl)) ?_; (with_reducible refine (spec_StaysWithin.calls k2 _ _ l0 (rd l1 (ji15)) (rd l1 x7_2) a2 t200 t201 _ ?side1 ?side2 A19.out).mono ?_); (case side1 => repeat (first | exact (ay HR0.out HB.out) | (with_reducible refine ar ?_ _) | (with_reducible refine au ?_ _) | (with_reducible refine av ?_))); (case side2 => exact HC0.out); rintro e w27 ⟨rfl, hb⟩; refine ⟨_, rfl, ?_⟩; have n0_ := aa (af (by repeat (first | (with_reducible first | exact HB.out | apply ae | apply ab | apply ac) | exact HB.out)) hb); clear HB; have HB := n0_; clear n0_; (try clear hb); (try clear hb2); (try clear hk); (try clear hi); refine hK.out _ _ ⟨((HB.out.cell (World.block_lt_of_cell? w _ hw198_0)).trans hw198_0), ((HB.out.cell (World.block_lt_of_cell? w _ hw199_0)).trans hw199_0)⟩ (fun hHeld => ?_); clear hK K; refine norm_ (a' := ?_) ?_ ?_; rotate_left
           ·show Act.put _ (some 56) _ = _; simp only [Act.put, a7, a8, a9, i64_w, i32_w]; rfl
           refine pure_ (i := 12) (N := some 44) (v := ?_) (a' := ?_) #[true, true, true, true, true, true, true, true, true, true, true, true, true, false, false, false, false] rfl rfl (any_of HT_.out (by kernel_rfl)) (fun _ _ _ h => h) (Or.inl ⟨by rfl, ?_⟩) ?_ ?_; rotate_left
           ·intro w'; go_simp; (with_reducible rfl)
           rotate_left
           ·simp only [Act.put, a7, a8, a9, i64_w, i32_w]; rfl
           refine pure_ (i := 13) (N := some 57) (v := ?_) (a' := ?_) #[true, true, true, true, true, true, true, true, true, true, true, true, true, true, false, false, false] rfl rfl (any_of HT_.out (by kernel_rfl)) (fun _ _ _ h => h) (Or.inl ⟨by rfl, ?_⟩) ?_ ?_; rotate_left
           ·intro w'; go_simp; (with_reducible rfl)
           rotate_left
           ·simp only [Act.put, a7, a8, a9, i64_w, i32_w]; rfl
           refine pure_ (i := 14) (N := some 58) (v := ?_) (a' := ?_) #[true, true, true, true, true, true, true, true, true, true, true, true, true, true, true, false, false] rfl rfl (any_of HT_.out (by kernel_rfl)) (fun _ _ _ h => h) (Or.inl ⟨by rfl, ?_⟩) ?_ ?_; rotate_left
           ·intro w'; go_simp; (with_reducible rfl)
           rotate_left
           ·simp only [Act.put, a7, a8, a9, i64_w, i32_w]; rfl
           refine pure_ (i := 15) (N := some 8) (v := ?_) (a' := ?_) #[true, true, true, true, true, true, true, true, true, true, true, true, true, true, true, true, false] rfl rfl (any_of HT_.out (by kernel_rfl)) (fun _ _ _ h => h) (Or.inl ⟨by rfl, ?_⟩) ?_ ?_; rotate_left
           ·intro w'; go_simp; (with_reducible rfl)
           rotate_left
           ·simp only [Act.put, a7, a8, a9, i64_w, i32_w]; rfl
           refine pure_ (i := 16) (N := some 9) (v := ?_) (a' := ?_) #[true, true, true, true, true, true, true, true, true, true, true, true, true, true, true, true, true] rfl rfl (any_of HT_.out (by kernel_rfl)) (fun _ _ _ h => h) (Or.inl ⟨by rfl, ?_⟩) ?_ ?_; rotate_left
           ·intro w'; go_simp; (with_reducible rfl)
           rotate_left
           ·simp only [Act.put, a7, a8, a9, i64_w, i32_w]; rfl
           refine done_ (done_of HT_.out (by kernel_rfl)) ?_; (try go_wp2); go_ret; exact ⟨by first | rfl | (simp [errW_none, errW_some] <;> rfl) | (simp only [← hji15]; first | rfl | (simp [errW_none, errW_some] <;> rfl)) | (simp [*, errW_none, errW_some] <;> rfl), by repeat (first | (with_reducible first | exact HB.out | apply ae | apply ab | apply ac) | exact HB.out)⟩
         ·rw [if_neg c18] at H; exact absurd H (by simp)
        ·rw [if_neg c17] at H; exact absurd H (by simp)
       ·rw [if_neg c16] at H; exact absurd H (by simp)
      ·rw [if_neg c14] at H; have c14b0 : decide (x7_2 < (l1.length : Int)) = false := decide_eq_false c14; clear c14; obtain rfl := Option.some.inj H; go_wp2; go_ret; exact ⟨by first | rfl | (simp [errW_none, errW_some] <;> rfl) | (simp [*, errW_none, errW_some] <;> rfl), by repeat (first | (with_reducible first | exact HB.out | apply ae | apply ab | apply ac) | exact HB.out)⟩
end Go.Proofs.YtmgljagkmaoopaaGreat.QFnTopOfAll
