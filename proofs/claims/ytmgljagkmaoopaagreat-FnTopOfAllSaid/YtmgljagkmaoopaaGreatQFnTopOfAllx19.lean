/- Walks of the Go functions that the law FnTopOfAll reaches: written by a program of this session. -/
import Derived.Test.YtmgljagkmaoopaaGreatQFnTopOfAllx0
import Derived.Test.YtmgljagkmaoopaaGreatQFnTopOfAllx11
import Derived.Test.YtmgljagkmaoopaaGreatQFnTopOfAllx18
namespace Go.Proofs.YtmgljagkmaoopaaGreat.QFnTopOfAll
open Go.RowKit Go.Proofs.YtmgljagkmaoopaaGreatW.PrintWords Go.Proofs.YtmgljagkmaoopaaGreatW.PrintLast Go.Proofs.YtmgljagkmaoopaaGreatW.PrintMore
attribute [local go_sem] max2_int min2_int max_two min_two max_three min_three max_four min_four
open Go.Proofs.YtmgljagkmaoopaaGreatW.PrintWords renaming below_alloc → ae, below_drew1 → ac, below_size → al, below_step → af, pw_below_drewN → ab
open Go.Proofs.YtmgljagkmaoopaaGreatW.PrintWords.Aside0 renaming mk → aa
open Go.Proofs.YtmgljagkmaoopaaGreatW.PrintWords.Kd renaming C_alloc → ar, C_drew → av, C_drewN → au, R_alloc → ah, R_drew → ai, R_drewN → ag, R_lower → bd, at_int → ax
open Option renaming bind_eq_some_iff → bf
open List renaming length_drop → b0, length_take → b2, map_cons → b4, map_nil → b5, map_toArray → b3
set_option linter.unusedVariables false
set_option linter.unusedSimpArgs false
def spec_l09Clash.l0 : Nat → List (S82) → List Int → Int → Option (Int)
 | 0, _, _, _ => none
 | k + 1, x0, x1, x5 => if x5 < (x0.length : Int) then (if 0 ≤ x5 then (if 0 ≤ ((rd_T82 x0 x5).f0) then (if ((rd_T82 x0 x5).f0) < (x1.length : Int) then (if 0 ≤ ((rd_T82 x0 x5).f1) then (if ((rd_T82 x0 x5).f1) < (x1.length : Int) then (if (rd x1 ((rd_T82 x0 x5).f0)) = (rd x1 ((rd_T82 x0 x5).f1)) then (some x5) else (spec_l09Clash.l0 k x0 x1 (wrap64 (x5 + 1)))) else (none)) else (none)) else (none)) else (none)) else (none)) else (some (-1))
def spec_l09Clash.f (k : Nat) (l0 : List (S82)) (l1 : List Int) : Option (Int) := spec_l09Clash.l0 k l0 l1 0
theorem spec_l09Clash.mono_l : ∀ k, (∀ y0 y1 y2, LeO (spec_l09Clash.l0 k y0 y1 y2) (spec_l09Clash.l0 (k + 1) y0 y1 y2))
 | 0 => fun _ _ _ r h => by simp [spec_l09Clash.l0] at h
 | k + 1 => by
  have ih0 := spec_l09Clash.mono_l k
  ·intro y0 y1 y2; unfold spec_l09Clash.l0
   repeat' first
   | (with_reducible exact ih0 _ _ _)
   | (with_reducible exact LeO.refl _)
   | (with_reducible exact LeO.none _)
   | (with_reducible refine LeO.ite ?_ ?_)
   | (with_reducible refine LeO.bind ?_ (fun _ => ?_))
   | exact ih0 _ _ _
   | exact LeO.none _
   | refine LeO.ite ?_ ?_
   | refine LeO.bind ?_ (fun _ => ?_)
theorem spec_l09Clash.mono : ∀ a0 a1 k, LeO (spec_l09Clash.f k a0 a1) (spec_l09Clash.f (k + 1) a0 a1) := by
 intro a0 a1 k; have ih0 := spec_l09Clash.mono_l k; unfold spec_l09Clash.f
 repeat' first
   | (with_reducible exact ih0 _ _ _)
   | (with_reducible exact LeO.refl _)
   | (with_reducible exact LeO.none _)
   | (with_reducible refine LeO.ite ?_ ?_)
   | (with_reducible refine LeO.bind ?_ (fun _ => ?_))
   | exact ih0 _ _ _
   | exact LeO.none _
   | refine LeO.ite ?_ ?_
   | refine LeO.bind ?_ (fun _ => ?_)
set_option maxHeartbeats 8000000 in
set_option maxRecDepth 100000 in
theorem spec_l09Clash.calls (k : Nat) (A0 : Option Addr) (c0 : Nat) (l0 : List (S82)) (A1 : Option Addr) (c1 : Nat) (l1 : List Int) (r : Int) (w : World) (hr0 : Kd.C k82 w A0 l0.length l0) (hc0 : l0.length ≤ c0) (hr1 : Kd.C (Kd.int .i64) w A1 l1.length l1) (hc1 : l1.length ≤ c1) (h : spec_l09Clash.f k l0 l1 = some r) :
  Calls Tryz.prog 60 #[.slice A0 l0.length c0, .slice A1 l1.length c1] w fun e w' => e = .returned (.int .i64 r) ∧ Drawn0 w w' := by
 have HR0 := aa hr0; have HC0 := aa hc0; clear hr0 hc0; have HR1 := aa hr1; have HC1 := aa hc1; clear hr1 hc1; have H : (spec_l09Clash.l0 k l0 l1 0) = some r := h; clear h; have H' := aa H; clear H; go_enter Tryz.func60, Tryz.ntmps60; go_wp2; (repeat (go_quiet (fail); try go_wp2))
 go_loopg [5] k (fun kq v5 w' => ∃ (x5_1 : Int), v5 = .int .i64 x5_1 ∧ Aside0 (spec_l09Clash.l0 kq l0 l1 x5_1 = some r) ∧ Aside0 (kq ≤ k) ∧ Drawn0 w w')
 case atStart => exact ⟨(0), (by first | rfl | (simp; done) | (simp [*]; done)), H', ⟨Nat.le_refl _⟩, by repeat (first | exact Drawn0.refl _ | apply Drawn0.step)⟩
 case round =>
  clear H'; (try clear c1); (try clear p2); obtain ⟨x5_1, rfl, HA, HK1, ⟨m1, rfl⟩⟩ := hrel
  cases gk with
  | zero => exact absurd HA.out (by simp [spec_l09Clash.l0])
  | succ k1 =>
   have H := HA.out; clear HA; simp only [spec_l09Clash.l0] at H; by_cases c3 : x5_1 < (l0.length : Int)
   ·rw [if_pos c3] at H; have c3b0 : decide (x5_1 < (l0.length : Int)) = true := decide_eq_true c3; clear c3; by_cases c4 : 0 ≤ x5_1
    ·rw [if_pos c4] at H; have c4b0 : decide (0 ≤ x5_1) = true := decide_eq_true c4; clear c4; by_cases c5 : 0 ≤ ((rd_T82 l0 x5_1).f0)
     ·rw [if_pos c5] at H; have c5b0 : decide (0 ≤ ((rd_T82 l0 x5_1).f0)) = true := decide_eq_true c5; clear c5; by_cases c6 : ((rd_T82 l0 x5_1).f0) < (l1.length : Int)
      ·rw [if_pos c6] at H; have c6b0 : decide (((rd_T82 l0 x5_1).f0) < (l1.length : Int)) = true := decide_eq_true c6; clear c6; by_cases c7 : 0 ≤ ((rd_T82 l0 x5_1).f1)
       ·rw [if_pos c7] at H; have c7b0 : decide (0 ≤ ((rd_T82 l0 x5_1).f1)) = true := decide_eq_true c7; clear c7; by_cases c8 : ((rd_T82 l0 x5_1).f1) < (l1.length : Int)
        ·rw [if_pos c8] at H; have c8b0 : decide (((rd_T82 l0 x5_1).f1) < (l1.length : Int)) = true := decide_eq_true c8; clear c8; by_cases c9 : (rd l1 ((rd_T82 l0 x5_1).f0)) = (rd l1 ((rd_T82 l0 x5_1).f1))
         ·rw [if_pos c9] at H; have c9b0 : ((rd l1 ((rd_T82 l0 x5_1).f0)) == (rd l1 ((rd_T82 l0 x5_1).f1))) = true := beq_iff_eq.mpr c9; have c9b1 : ((rd l1 ((rd_T82 l0 x5_1).f0)) != (rd l1 ((rd_T82 l0 x5_1).f1))) = false := bne_eq_false_iff_eq.mpr c9; clear c9; obtain rfl := Option.some.inj H; have p378 : 0 ≤ (x5_1 : Int) := of_decide_eq_true (by first | (with_reducible assumption) | assumption); have q378 : x5_1 < (l0.length : Int) := of_decide_eq_true (by first | (with_reducible assumption) | assumption); obtain ⟨ad378, e378, hx378_0, hx378_1⟩ := at_T82 HR0.out x5_1 p378 q378
          cases e378
          replace p378 := eq_true p378; replace q378 := eq_true q378; have p379 : 0 ≤ (((rd_T82 l0 x5_1).f0) : Int) := of_decide_eq_true (by first | (with_reducible assumption) | assumption); have q379 : ((rd_T82 l0 x5_1).f0) < (l1.length : Int) := of_decide_eq_true (by first | (with_reducible assumption) | assumption); obtain ⟨ad379, e379, hx379_0⟩ := ax HR1.out ((rd_T82 l0 x5_1).f0) p379 q379
          cases e379
          replace p379 := eq_true p379; replace q379 := eq_true q379; have p380 : 0 ≤ (x5_1 : Int) := of_decide_eq_true (by first | (with_reducible assumption) | assumption); have q380 : x5_1 < (l0.length : Int) := of_decide_eq_true (by first | (with_reducible assumption) | assumption); obtain ⟨ad380, e380, hx380_0, hx380_1⟩ := at_T82 HR0.out x5_1 p380 q380; obtain rfl : ad378 = ad380 := (by injection e380); replace p380 := eq_true p380; replace q380 := eq_true q380; have p381 : 0 ≤ (((rd_T82 l0 x5_1).f1) : Int) := of_decide_eq_true (by first | (with_reducible assumption) | assumption); have q381 : ((rd_T82 l0 x5_1).f1) < (l1.length : Int) := of_decide_eq_true (by first | (with_reducible assumption) | assumption); obtain ⟨ad381, e381, hx381_0⟩ := ax HR1.out ((rd_T82 l0 x5_1).f1) p381 q381; obtain rfl : ad379 = ad381 := (by injection e381); replace p381 := eq_true p381; replace q381 := eq_true q381; go_wp2; (repeat (go_quiet (fail); try go_wp2)); go_ret; exact ⟨by first | rfl | (simp; done) | (simp [*]; done), by repeat (first | exact Drawn0.refl _ | apply Drawn0.step)⟩
         ·rw [if_neg c9] at H; have c9b0 : ((rd l1 ((rd_T82 l0 x5_1).f0)) == (rd l1 ((rd_T82 l0 x5_1).f1))) = false := beq_eq_false_iff_ne.mpr c9; have c9b1 : ((rd l1 ((rd_T82 l0 x5_1).f0)) != (rd l1 ((rd_T82 l0 x5_1).f1))) = true := bne_iff_ne.mpr c9; have H' := aa H; clear H; have p378 : 0 ≤ (x5_1 : Int) := of_decide_eq_true (by first | (with_reducible assumption) | assumption); have q378 : x5_1 < (l0.length : Int) := of_decide_eq_true (by first | (with_reducible assumption) | assumption); obtain ⟨ad378, e378, hx378_0, hx378_1⟩ := at_T82 HR0.out x5_1 p378 q378
          cases e378
          replace p378 := eq_true p378; replace q378 := eq_true q378; have p379 : 0 ≤ (((rd_T82 l0 x5_1).f0) : Int) := of_decide_eq_true (by first | (with_reducible assumption) | assumption); have q379 : ((rd_T82 l0 x5_1).f0) < (l1.length : Int) := of_decide_eq_true (by first | (with_reducible assumption) | assumption); obtain ⟨ad379, e379, hx379_0⟩ := ax HR1.out ((rd_T82 l0 x5_1).f0) p379 q379
          cases e379
          replace p379 := eq_true p379; replace q379 := eq_true q379; have p380 : 0 ≤ (x5_1 : Int) := of_decide_eq_true (by first | (with_reducible assumption) | assumption); have q380 : x5_1 < (l0.length : Int) := of_decide_eq_true (by first | (with_reducible assumption) | assumption); obtain ⟨ad380, e380, hx380_0, hx380_1⟩ := at_T82 HR0.out x5_1 p380 q380; obtain rfl : ad378 = ad380 := (by injection e380); replace p380 := eq_true p380; replace q380 := eq_true q380; have p381 : 0 ≤ (((rd_T82 l0 x5_1).f1) : Int) := of_decide_eq_true (by first | (with_reducible assumption) | assumption); have q381 : ((rd_T82 l0 x5_1).f1) < (l1.length : Int) := of_decide_eq_true (by first | (with_reducible assumption) | assumption); obtain ⟨ad381, e381, hx381_0⟩ := ax HR1.out ((rd_T82 l0 x5_1).f1) p381 q381; obtain rfl : ad379 = ad381 := (by injection e381); replace p381 := eq_true p381; replace q381 := eq_true q381; go_wp2; (repeat (go_quiet (fail); try go_wp2)); go_roundg k1
          case measure => have := HK1.out; omega
          case rel => exact ⟨(wrap64 (x5_1 + 1)), (by first | rfl | (simp; done) | (simp [*]; done)), H', ⟨by have := HK1.out; omega⟩, by repeat (first | exact Drawn0.refl _ | apply Drawn0.step)⟩
        ·rw [if_neg c8] at H; exact absurd H (by simp)
       ·rw [if_neg c7] at H; exact absurd H (by simp)
      ·rw [if_neg c6] at H; exact absurd H (by simp)
     ·rw [if_neg c5] at H; exact absurd H (by simp)
    ·rw [if_neg c4] at H; exact absurd H (by simp)
   ·rw [if_neg c3] at H; have c3b0 : decide (x5_1 < (l0.length : Int)) = false := decide_eq_false c3; clear c3; obtain rfl := Option.some.inj H; go_wp2; (repeat (go_quiet (fail); try go_wp2)); go_ret; exact ⟨by first | rfl | (simp; done) | (simp [*]; done), by repeat (first | exact Drawn0.refl _ | apply Drawn0.step)⟩
def spec_FirstClash.f (k : Nat) (a0 : Int) (l1 : List (S82)) (l2 : List Int) : Option (Int × Int) := (spec_l09Ok.f k a0 l1).bind fun t382 => (if t382 = true then ((spec_l09Colours.f k a0 l2).bind fun t383 => (if t383 = true then ((spec_l09Clash.f k l1 l2).bind fun t384 => (some (t384, 0))) else (some (0, 2)))) else (some (0, 1)))
theorem spec_FirstClash.mono : ∀ a0 a1 a2 k, LeO (spec_FirstClash.f k a0 a1 a2) (spec_FirstClash.f (k + 1) a0 a1 a2) := by
 intro a0 a1 a2 k; unfold spec_FirstClash.f
 repeat' first
   | (with_reducible exact spec_l09Clash.mono _ _ _)
   | (with_reducible exact spec_l09Colours.mono _ _ _)
   | (with_reducible exact spec_l09Ok.mono _ _ _)
   | (with_reducible exact LeO.refl _)
   | (with_reducible exact LeO.none _)
   | (with_reducible refine LeO.ite ?_ ?_)
   | (with_reducible refine LeO.bind ?_ (fun _ => ?_))
   | exact spec_l09Clash.mono _ _ _
   | exact spec_l09Colours.mono _ _ _
   | exact spec_l09Ok.mono _ _ _
   | exact LeO.none _
   | refine LeO.ite ?_ ?_
   | refine LeO.bind ?_ (fun _ => ?_)
set_option maxHeartbeats 8000000 in
set_option maxRecDepth 100000 in
theorem spec_FirstClash.calls (k : Nat) (a0 : Int) (A1 : Option Addr) (c1 : Nat) (l1 : List (S82)) (A2 : Option Addr) (c2 : Nat) (l2 : List Int) (r1 : Int) (r2 : Int) (w : World) (hr1 : Kd.C k82 w A1 l1.length l1) (hc1 : l1.length ≤ c1) (hr2 : Kd.C (Kd.int .i64) w A2 l2.length l2) (hc2 : l2.length ≤ c2) (h : spec_FirstClash.f k a0 l1 l2 = some (r1, r2)) :
  Calls Tryz.prog 26 #[.int .i64 a0, .slice A1 l1.length c1, .slice A2 l2.length c2] w fun e w' => e = .returned (.tuple #[.int .i64 r1, .int .i64 r2]) ∧ Drawn0 w w' := by
 have HR1 := aa hr1; have HC1 := aa hc1; clear hr1 hc1; have HR2 := aa hr2; have HC2 := aa hc2; clear hr2 hc2; have H : ((spec_l09Ok.f k a0 l1).bind fun t382 => (if t382 = true then ((spec_l09Colours.f k a0 l2).bind fun t383 => (if t383 = true then ((spec_l09Clash.f k l1 l2).bind fun t384 => (some (t384, 0))) else (some (0, 2)))) else (some (0, 1)))) = some (r1, r2) := h; clear h; replace H := bf.mp H; obtain ⟨t382, A40, H⟩ := H; (try dsimp only at H); have A4 := aa A40; clear A40; by_cases c5 : t382 = true
 ·subst c5; have H1 := H; rw [if_pos rfl] at H1; clear H; have H := H1; clear H1; replace H := bf.mp H; obtain ⟨t383, A60, H⟩ := H; (try dsimp only at H); have A6 := aa A60; clear A60; by_cases c7 : t383 = true
  ·subst c7; (have H1 : ((spec_l09Clash.f k l1 l2).bind fun t384 => (some (t384, 0))) = some (r1, r2) := by rw [if_pos rfl] at H; exact H); clear H; have H := H1; clear H1; replace H := bf.mp H; obtain ⟨t384, A80, H⟩ := H; replace H : (some (t384, 0)) = some (r1, r2) := H; have A8 := aa A80; clear A80; simp only [Option.some.injEq, Prod.mk.injEq] at H; obtain ⟨rfl, rfl⟩ := H; go_enter Tryz.func26, Tryz.ntmps26
   go_wp2_with (first | ((with_reducible refine gate_callee (f := 57) rfl ?_); refine goesL_ (some 10) rfl rfl Tryz.func57 (by kernel_rfl) rfl #[.int .i64 a0, .slice A1 l1.length c1] rfl (by (try simp only [b3, b4, b5]); first | done | rfl | (simp only [b0, b2]; rfl)) ?_; (with_reducible refine (spec_l09Ok.calls k a0 _ _ l1 true _ ?side1 ?side2 A4.out).mono ?_); (case side1 => repeat (first | exact HR1.out | (with_reducible refine ar ?_ _) | (with_reducible refine au ?_ _) | (with_reducible refine av ?_))); (case side2 => exact HC1.out); rintro e w' ⟨rfl, ⟨nd, rfl⟩⟩; refine ⟨_, rfl, ?_⟩) | ((with_reducible refine gate_callee (f := 59) rfl ?_); refine goesL_ (some 14) rfl rfl Tryz.func59 (by kernel_rfl) rfl #[.int .i64 a0, .slice A2 l2.length c2] rfl (by (try simp only [b3, b4, b5]); first | done | rfl | (simp only [b0, b2]; rfl)) ?_; (with_reducible refine (spec_l09Colours.calls k a0 _ _ l2 true _ ?side1 ?side2 A6.out).mono ?_); (case side1 => repeat (first | exact HR2.out | (with_reducible refine ar ?_ _) | (with_reducible refine au ?_ _) | (with_reducible refine av ?_))); (case side2 => exact HC2.out); rintro e w' ⟨rfl, ⟨nd, rfl⟩⟩; refine ⟨_, rfl, ?_⟩) | ((with_reducible refine gate_callee (f := 60) rfl ?_); refine goesL_ (some 18) rfl rfl Tryz.func60 (by kernel_rfl) rfl #[.slice A1 l1.length c1, .slice A2 l2.length c2] rfl (by (try simp only [b3, b4, b5]); first | done | rfl | (simp only [b0, b2]; rfl)) ?_; (with_reducible refine (spec_l09Clash.calls k _ _ l1 _ _ l2 t384 _ ?side1 ?side2 ?side3 ?side4 A8.out).mono ?_); (case side1 => repeat (first | exact HR1.out | (with_reducible refine ar ?_ _) | (with_reducible refine au ?_ _) | (with_reducible refine av ?_))); (case side2 => exact HC1.out); (case side3 => repeat (first | exact HR2.out | (with_reducible refine ar ?_ _) | (with_reducible refine au ?_ _) | (with_reducible refine av ?_))); (case side4 => exact HC2.out); rintro e w' ⟨rfl, ⟨nd, rfl⟩⟩; refine ⟨_, rfl, ?_⟩))
   go_ret2; exact ⟨by first | rfl | (simp; done) | (simp [*]; done), by repeat (first | exact Drawn0.refl _ | apply Drawn0.step)⟩
  ·replace c7 := Bool.eq_false_iff.mpr c7; subst c7; (have H1 : (some (0, 2)) = some (r1, r2) := by rw [if_neg (show ¬ (false = true) by decide)] at H; exact H); clear H; have H := H1; clear H1; simp only [Option.some.injEq, Prod.mk.injEq] at H; obtain ⟨rfl, rfl⟩ := H; go_enter Tryz.func26, Tryz.ntmps26
   go_wp2_with (first | ((with_reducible refine gate_callee (f := 57) rfl ?_); refine goesL_ (some 10) rfl rfl Tryz.func57 (by kernel_rfl) rfl #[.int .i64 a0, .slice A1 l1.length c1] rfl (by (try simp only [b3, b4, b5]); first | done | rfl | (simp only [b0, b2]; rfl)) ?_; (with_reducible refine (spec_l09Ok.calls k a0 _ _ l1 true _ ?side1 ?side2 A4.out).mono ?_); (case side1 => repeat (first | exact HR1.out | (with_reducible refine ar ?_ _) | (with_reducible refine au ?_ _) | (with_reducible refine av ?_))); (case side2 => exact HC1.out); rintro e w' ⟨rfl, ⟨nd, rfl⟩⟩; refine ⟨_, rfl, ?_⟩) | ((with_reducible refine gate_callee (f := 59) rfl ?_); refine goesL_ (some 14) rfl rfl Tryz.func59 (by kernel_rfl) rfl #[.int .i64 a0, .slice A2 l2.length c2] rfl (by (try simp only [b3, b4, b5]); first | done | rfl | (simp only [b0, b2]; rfl)) ?_; (with_reducible refine (spec_l09Colours.calls k a0 _ _ l2 false _ ?side1 ?side2 A6.out).mono ?_); (case side1 => repeat (first | exact HR2.out | (with_reducible refine ar ?_ _) | (with_reducible refine au ?_ _) | (with_reducible refine av ?_))); (case side2 => exact HC2.out); rintro e w' ⟨rfl, ⟨nd, rfl⟩⟩; refine ⟨_, rfl, ?_⟩))
   go_ret2; exact ⟨by first | rfl | (simp; done) | (simp [*]; done), by repeat (first | exact Drawn0.refl _ | apply Drawn0.step)⟩
 ·replace c5 := Bool.eq_false_iff.mpr c5; subst c5; (have H1 : (some (0, 1)) = some (r1, r2) := by rw [if_neg (show ¬ (false = true) by decide)] at H; exact H); clear H; have H := H1; clear H1; simp only [Option.some.injEq, Prod.mk.injEq] at H; obtain ⟨rfl, rfl⟩ := H; go_enter Tryz.func26, Tryz.ntmps26
  go_wp2_with (first | ((with_reducible refine gate_callee (f := 57) rfl ?_); refine goesL_ (some 10) rfl rfl Tryz.func57 (by kernel_rfl) rfl #[.int .i64 a0, .slice A1 l1.length c1] rfl (by (try simp only [b3, b4, b5]); first | done | rfl | (simp only [b0, b2]; rfl)) ?_; (with_reducible refine (spec_l09Ok.calls k a0 _ _ l1 false _ ?side1 ?side2 A4.out).mono ?_); (case side1 => repeat (first | exact HR1.out | (with_reducible refine ar ?_ _) | (with_reducible refine au ?_ _) | (with_reducible refine av ?_))); (case side2 => exact HC1.out); rintro e w' ⟨rfl, ⟨nd, rfl⟩⟩; refine ⟨_, rfl, ?_⟩))
  go_ret2; exact ⟨by first | rfl | (simp; done) | (simp [*]; done), by repeat (first | exact Drawn0.refl _ | apply Drawn0.step)⟩
def spec_FirstColours.f (k : Nat) (a0 : Int) (l1 : List (S82)) (a2 : Int) : Option (List Int × Int) := (spec_l09Code.f k a0 l1 a2).bind fun t385 => (if t385 = 0 then ((spec_l09First.f k a0 l1 a2).bind fun bt386 => (if bt386.2 = true then (some (bt386.1, 0)) else (some (([] : List Int), 3)))) else (some (([] : List Int), t385)))
theorem spec_FirstColours.mono : ∀ a0 a1 a2 k, LeO (spec_FirstColours.f k a0 a1 a2) (spec_FirstColours.f (k + 1) a0 a1 a2) := by
 intro a0 a1 a2 k; unfold spec_FirstColours.f
 repeat' first
   | (with_reducible exact spec_l09Code.mono _ _ _ _)
   | (with_reducible exact spec_l09First.mono _ _ _ _)
   | (with_reducible exact LeO.refl _)
   | (with_reducible exact LeO.none _)
   | (with_reducible refine LeO.ite ?_ ?_)
   | (with_reducible refine LeO.bind ?_ (fun _ => ?_))
   | exact spec_l09Code.mono _ _ _ _
   | exact spec_l09First.mono _ _ _ _
   | exact LeO.none _
   | refine LeO.ite ?_ ?_
   | refine LeO.bind ?_ (fun _ => ?_)
set_option maxHeartbeats 8000000 in
set_option maxRecDepth 100000 in
theorem spec_FirstColours.calls (k : Nat) (a0 : Int) (A1 : Option Addr) (c1 : Nat) (l1 : List (S82)) (a2 : Int) (r1 : List Int) (r2 : Int) (w : World) (hr1 : Kd.C k82 w A1 l1.length l1) (hc1 : l1.length ≤ c1) (h : spec_FirstColours.f k a0 l1 a2 = some (r1, r2)) :
  Calls Tryz.prog 27 #[.int .i64 a0, .slice A1 l1.length c1, .int .i64 a2] w fun e w' => ∃ v0_ : Value, e = .returned (.tuple #[v0_, .int .i64 r2]) ∧ Kd.R (Kd.int .i64) 2 w' w.heap.size (fun _ => True) v0_ r1 ∧ Below w.heap.size w w' := by
 have HR1 := aa hr1; have HC1 := aa hc1; clear hr1 hc1; have HB := aa (Below.refl w.heap.size w); have H : ((spec_l09Code.f k a0 l1 a2).bind fun t385 => (if t385 = 0 then ((spec_l09First.f k a0 l1 a2).bind fun bt386 => (if bt386.2 = true then (some (bt386.1, 0)) else (some (([] : List Int), 3)))) else (some (([] : List Int), t385)))) = some (r1, r2) := h; clear h; replace H := bf.mp H; obtain ⟨t385, A40, H⟩ := H; (try dsimp only at H); have A4 := aa A40; clear A40; by_cases c5 : t385 = 0
 ·rw [if_pos c5] at H; have c5b0 : (t385 == 0) = true := beq_iff_eq.mpr c5; have c5b1 : (t385 != 0) = false := bne_eq_false_iff_eq.mpr c5; clear c5; replace H := bf.mp H; obtain ⟨⟨t386, t387⟩, A60, H⟩ := H; replace H : (if t387 = true then (some (t386, 0)) else (some (([] : List Int), 3))) = some (r1, r2) := H; have A6 := aa A60; clear A60; by_cases c7 : t387 = true
  ·subst c7; (have H1 : (some (t386, 0)) = some (r1, r2) := by rw [if_pos rfl] at H; exact H); clear H; have H := H1; clear H1; simp only [Option.some.injEq, Prod.mk.injEq] at H; obtain ⟨rfl, rfl⟩ := H; go_enter Tryz.func27, Tryz.ntmps27
   go_wp2_with (first | ((with_reducible refine gate_callee (f := 45) rfl ?_); refine goesL_ (some 14) rfl rfl Tryz.func45 (by kernel_rfl) rfl #[.int .i64 a0, .slice A1 l1.length c1, .int .i64 a2] rfl (by (try simp only [b3, b4, b5]); first | done | rfl | (simp only [b0, b2]; rfl)) ?_; (with_reducible refine (spec_l09Code.calls k a0 _ _ l1 a2 t385 _ ?side1 ?side2 A4.out).mono ?_); (case side1 => repeat (first | exact HR1.out | (with_reducible refine ar ?_ _) | (with_reducible refine au ?_ _) | (with_reducible refine av ?_))); (case side2 => exact HC1.out); rintro e w' ⟨rfl, ⟨nd, rfl⟩⟩; refine ⟨_, rfl, ?_⟩) | ((with_reducible refine gate_callee (f := 61) rfl ?_); refine goesL_ (some 22) rfl rfl Tryz.func61 (by kernel_rfl) rfl #[.int .i64 a0, .slice A1 l1.length c1, .int .i64 a2] rfl (by (try simp only [b3, b4, b5]); first | done | rfl | (simp only [b0, b2]; rfl)) ?_; (with_reducible refine (spec_l09First.calls k a0 _ _ l1 a2 t386 true _ ?side1 ?side2 A6.out).mono ?_); (case side1 => repeat (first | exact HR1.out | (with_reducible refine ar ?_ _) | (with_reducible refine au ?_ _) | (with_reducible refine av ?_))); (case side2 => exact HC1.out); rintro e w8 ⟨v388, rfl, ho0, hb⟩; refine ⟨_, rfl, ?_⟩; have n0_ := aa (bd ho0 (al (by repeat (first | (with_reducible first | exact HB.out | apply ae | apply ab | apply ac) | exact HB.out)))); have n1_ := aa (af (by repeat (first | (with_reducible first | exact HB.out | apply ae | apply ab | apply ac) | exact HB.out)) hb); clear HB; have HO389 := n0_; have HB := n1_; clear n0_ n1_; (try clear hb); (try clear hb2); (try clear hk); (try clear hi); (try clear ho0)))
   go_ret2; exact ⟨_, by first | rfl | (simp [errW_none, errW_some] <;> rfl) | (simp [*, errW_none, errW_some] <;> rfl), by (with_reducible repeat (first | apply ah | apply ag | apply ai)); exact HO389.out, by repeat (first | (with_reducible first | exact HB.out | apply ae | apply ab | apply ac) | exact HB.out)⟩
  ·replace c7 := Bool.eq_false_iff.mpr c7; subst c7; (have H1 : (some (([] : List Int), 3)) = some (r1, r2) := by rw [if_neg (show ¬ (false = true) by decide)] at H; exact H); clear H; have H := H1; clear H1; simp only [Option.some.injEq, Prod.mk.injEq] at H; obtain ⟨rfl, rfl⟩ := H; go_enter Tryz.func27, Tryz.ntmps27
   go_wp2_with (first | ((with_reducible refine gate_callee (f := 45) rfl ?_); refine goesL_ (some 14) rfl rfl Tryz.func45 (by kernel_rfl) rfl #[.int .i64 a0, .slice A1 l1.length c1, .int .i64 a2] rfl (by (try simp only [b3, b4, b5]); first | done | rfl | (simp only [b0, b2]; rfl)) ?_; (with_reducible refine (spec_l09Code.calls k a0 _ _ l1 a2 t385 _ ?side1 ?side2 A4.out).mono ?_); (case side1 => repeat (first | exact HR1.out | (with_reducible refine ar ?_ _) | (with_reducible refine au ?_ _) | (with_reducible refine av ?_))); (case side2 => exact HC1.out); rintro e w' ⟨rfl, ⟨nd, rfl⟩⟩; refine ⟨_, rfl, ?_⟩) | ((with_reducible refine gate_callee (f := 61) rfl ?_); refine goesL_ (some 22) rfl rfl Tryz.func61 (by kernel_rfl) rfl #[.int .i64 a0, .slice A1 l1.length c1, .int .i64 a2] rfl (by (try simp only [b3, b4, b5]); first | done | rfl | (simp only [b0, b2]; rfl)) ?_; (with_reducible refine (spec_l09First.calls k a0 _ _ l1 a2 t386 false _ ?side1 ?side2 A6.out).mono ?_); (case side1 => repeat (first | exact HR1.out | (with_reducible refine ar ?_ _) | (with_reducible refine au ?_ _) | (with_reducible refine av ?_))); (case side2 => exact HC1.out); rintro e w9 ⟨v388, rfl, ho0, hb⟩; refine ⟨_, rfl, ?_⟩; have n0_ := aa (bd ho0 (al (by repeat (first | (with_reducible first | exact HB.out | apply ae | apply ab | apply ac) | exact HB.out)))); have n1_ := aa (af (by repeat (first | (with_reducible first | exact HB.out | apply ae | apply ab | apply ac) | exact HB.out)) hb); clear HB; have HO389 := n0_; have HB := n1_; clear n0_ n1_; (try clear hb); (try clear hb2); (try clear hk); (try clear hi); (try clear ho0)))
   go_ret2; exact ⟨_, by first | rfl | (simp [errW_none, errW_some] <;> rfl) | (simp [*, errW_none, errW_some] <;> rfl), by first | exact Kd.R_nil _ _ _ _ _ | exact Kd.N_nil _ _ _ _ _ | exact Kd.V_nil _ _ _ _ _ | exact Kd.Q_nil _ _ _ _ _ | exact Kd.S_nil _ _ _ _ _, by repeat (first | (with_reducible first | exact HB.out | apply ae | apply ab | apply ac) | exact HB.out)⟩
 ·rw [if_neg c5] at H; have c5b0 : (t385 == 0) = false := beq_eq_false_iff_ne.mpr c5; have c5b1 : (t385 != 0) = true := bne_iff_ne.mpr c5; simp only [Option.some.injEq, Prod.mk.injEq] at H; obtain ⟨rfl, rfl⟩ := H; go_enter Tryz.func27, Tryz.ntmps27
  go_wp2_with (first | ((with_reducible refine gate_callee (f := 45) rfl ?_); refine goesL_ (some 14) rfl rfl Tryz.func45 (by kernel_rfl) rfl #[.int .i64 a0, .slice A1 l1.length c1, .int .i64 a2] rfl (by (try simp only [b3, b4, b5]); first | done | rfl | (simp only [b0, b2]; rfl)) ?_; (with_reducible refine (spec_l09Code.calls k a0 _ _ l1 a2 t385 _ ?side1 ?side2 A4.out).mono ?_); (case side1 => repeat (first | exact HR1.out | (with_reducible refine ar ?_ _) | (with_reducible refine au ?_ _) | (with_reducible refine av ?_))); (case side2 => exact HC1.out); rintro e w' ⟨rfl, ⟨nd, rfl⟩⟩; refine ⟨_, rfl, ?_⟩))
  go_ret2; exact ⟨_, by first | rfl | (simp [errW_none, errW_some] <;> rfl) | (simp [*, errW_none, errW_some] <;> rfl), by first | exact Kd.R_nil _ _ _ _ _ | exact Kd.N_nil _ _ _ _ _ | exact Kd.V_nil _ _ _ _ _ | exact Kd.Q_nil _ _ _ _ _ | exact Kd.S_nil _ _ _ _ _, by repeat (first | (with_reducible first | exact HB.out | apply ae | apply ab | apply ac) | exact HB.out)⟩
end Go.Proofs.YtmgljagkmaoopaaGreat.QFnTopOfAll
