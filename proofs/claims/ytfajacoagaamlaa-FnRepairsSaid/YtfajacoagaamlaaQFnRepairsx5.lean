/- Walks of the Go functions that the law FnRepairs reaches: written by a program of this session. -/
import Derived.Test.YtfajacoagaamlaaQFnRepairsx0
import Derived.Test.YtfajacoagaamlaaQFnRepairsx2
import Derived.Test.YtfajacoagaamlaaQFnRepairsx3
namespace Go.Proofs.Ytfajacoagaamlaa.QFnRepairs
open Go.RowKit Go.Proofs.YtfajacoagaamlaaW.PrintWords Go.Proofs.YtfajacoagaamlaaW.PrintLast Go.Proofs.YtfajacoagaamlaaW.PrintMore
attribute [local go_sem] max2_int min2_int max_two min_two max_three min_three max_four min_four   -- for this text's walks alone
open Go.Proofs.YtfajacoagaamlaaW.PrintWords renaming below_alloc → ah, below_drew1 → ag, below_size → ar, below_step → ay, pw_below_drewN → ae
open Go.Proofs.YtfajacoagaamlaaW.PrintWords.Aside0 renaming mk → aa
open Go.Proofs.YtfajacoagaamlaaW.PrintWords.Kd renaming C_alloc → ak, C_below → bl, C_drew → am, C_drewN → al, R_alloc → ab, R_drew → af, R_drewN → ac, R_lower → bd, at_int → bj
open Option renaming bind_eq_some_iff → bm
set_option linter.unusedVariables false
set_option linter.unusedSimpArgs false

/-! ### spec_l22Copies: function 75 -/
mutual
def spec_l22Copies.l0 : Nat → List Int → List (List Int) → Int → Option (Int)
 | 0, _, _, _ => none
 | k + 1, x0, x1, x5 => if x5 < (x1.length : Int) then (if 0 ≤ x5 then ((spec_l22Ok.f k (rd_L1 x1 x5)).bind fun t185 => (if t185 = true then (spec_l22Copies.l0 k x0 x1 (wrap64 (x5 + 1))) else (some 1))) else (none)) else (spec_l22Copies.l1 k x0 x1 0)
def spec_l22Copies.l1 : Nat → List Int → List (List Int) → Int → Option (Int)
 | 0, _, _, _ => none
 | k + 1, x0, x1, x6 => if x6 < (x1.length : Int) then (if 0 ≤ x6 then (if ((rd_L1 x1 x6).length : Int) = (x0.length : Int) then (spec_l22Copies.l1 k x0 x1 (wrap64 (x6 + 1))) else (some 2)) else (none)) else (if (x1.length : Int) > 8 then (some 2) else (some 0))
end
def spec_l22Copies.f (k : Nat) (l0 : List Int) (l1 : List (List Int)) : Option (Int) := (spec_l22Ok.f k l0).bind fun t183 => (if t183 = true then (spec_l22Copies.l0 k l0 l1 0) else (some 1))
theorem spec_l22Copies.mono_l : ∀ k, (∀ y0 y1 y2, LeO (spec_l22Copies.l0 k y0 y1 y2) (spec_l22Copies.l0 (k + 1) y0 y1 y2)) ∧ (∀ y0 y1 y2, LeO (spec_l22Copies.l1 k y0 y1 y2) (spec_l22Copies.l1 (k + 1) y0 y1 y2))
 | 0 => ⟨fun _ _ _ r h => by simp [spec_l22Copies.l0] at h, fun _ _ _ r h => by simp [spec_l22Copies.l1] at h⟩
 | k + 1 => by
  obtain ⟨ih0, ih1⟩ := spec_l22Copies.mono_l k
  refine ⟨?_, ?_⟩
  ·intro y0 y1 y2
   unfold spec_l22Copies.l0
   repeat' first
   | (with_reducible exact ih0 _ _ _)
   | (with_reducible exact ih1 _ _ _)
   | (with_reducible exact spec_l22Ok.mono _ _)
   | (with_reducible exact LeO.refl _)
   | (with_reducible exact LeO.none _)
   | (with_reducible refine LeO.ite ?_ ?_)
   | (with_reducible refine LeO.bind ?_ (fun _ => ?_))
   | exact ih0 _ _ _
   | exact ih1 _ _ _
   | exact spec_l22Ok.mono _ _
   | exact LeO.none _
   | refine LeO.ite ?_ ?_
   | refine LeO.bind ?_ (fun _ => ?_)
  ·intro y0 y1 y2
   unfold spec_l22Copies.l1
   repeat' first
   | (with_reducible exact ih0 _ _ _)
   | (with_reducible exact ih1 _ _ _)
   | (with_reducible exact spec_l22Ok.mono _ _)
   | (with_reducible exact LeO.refl _)
   | (with_reducible exact LeO.none _)
   | (with_reducible refine LeO.ite ?_ ?_)
   | (with_reducible refine LeO.bind ?_ (fun _ => ?_))
   | exact ih0 _ _ _
   | exact ih1 _ _ _
   | exact spec_l22Ok.mono _ _
   | exact LeO.none _
   | refine LeO.ite ?_ ?_
   | refine LeO.bind ?_ (fun _ => ?_)
theorem spec_l22Copies.mono : ∀ a0 a1 k, LeO (spec_l22Copies.f k a0 a1) (spec_l22Copies.f (k + 1) a0 a1) := by
 intro a0 a1 k
 obtain ⟨ih0, ih1⟩ := spec_l22Copies.mono_l k
 unfold spec_l22Copies.f
 repeat' first
   | (with_reducible exact ih0 _ _ _)
   | (with_reducible exact ih1 _ _ _)
   | (with_reducible exact spec_l22Ok.mono _ _)
   | (with_reducible exact LeO.refl _)
   | (with_reducible exact LeO.none _)
   | (with_reducible refine LeO.ite ?_ ?_)
   | (with_reducible refine LeO.bind ?_ (fun _ => ?_))
   | exact ih0 _ _ _
   | exact ih1 _ _ _
   | exact spec_l22Ok.mono _ _
   | exact LeO.none _
   | refine LeO.ite ?_ ?_
   | refine LeO.bind ?_ (fun _ => ?_)
set_option maxHeartbeats 8000000 in
set_option maxRecDepth 100000 in
theorem spec_l22Copies.calls (k : Nat) (A0 : Option Addr) (c0 : Nat) (l0 : List Int) (A1 : Option Addr) (c1 : Nat) (l1 : List (List Int)) (r : Int) (w : World) (hr0 : Kd.C (Kd.int .i64) w A0 l0.length l0) (hc0 : l0.length ≤ c0) (hr1 : Kd.C (Kd.slice 2 (Kd.int .i64)) w A1 l1.length l1) (hc1 : l1.length ≤ c1) (h : spec_l22Copies.f k l0 l1 = some r) :
  Calls Try.prog 75 #[.slice A0 l0.length c0, .slice A1 l1.length c1] w fun e w' => e = .returned (.int .i64 r) ∧ Drawn0 w w' := by
 have HR0 := aa hr0
 have HC0 := aa hc0
 clear hr0 hc0
 have HR1 := aa hr1
 have HC1 := aa hc1
 clear hr1 hc1
 have H : ((spec_l22Ok.f k l0).bind fun t183 => (if t183 = true then (spec_l22Copies.l0 k l0 l1 0) else (some 1))) = some r := h
 clear h
 replace H := bm.mp H
 obtain ⟨t183, A30, H⟩ := H
 replace H : (if t183 = true then (spec_l22Copies.l0 k l0 l1 0) else (some 1)) = some r := H
 have A3 := aa A30
 clear A30
 by_cases c4 : t183 = true
 ·subst c4
  have H1 : (spec_l22Copies.l0 k l0 l1 0) = some r := by rw [if_pos rfl] at H; exact H
  clear H
  have H := H1
  clear H1
  have H' := aa H
  clear H
  go_enter Try.func75, Try.ntmps75
  go_wp2_with (first | ((with_reducible refine gate_callee (f := 59) rfl ?_); refine goesL_ (some 8) rfl rfl Try.func59 (by kernel_rfl) rfl #[.slice A0 l0.length c0] rfl (by (try simp only [List.map_toArray, List.map_cons, List.map_nil]); first | done | rfl | (simp only [List.length_drop, List.length_take]; rfl)) ?_; (with_reducible refine (spec_l22Ok.calls k _ _ l0 true _ ?side1 ?side2 A3.out).mono ?_); (case side1 => repeat (first | exact HR0.out | (with_reducible refine ak ?_ _) | (with_reducible refine al ?_ _) | (with_reducible refine am ?_))); (case side2 => exact HC0.out); rintro e w' ⟨rfl, ⟨nd, rfl⟩⟩; refine ⟨_, rfl, ?_⟩))
  go_loopg [5] k (fun kq v5 w' => ∃ (x5_1 : Int), v5 = .int .i64 x5_1 ∧ Aside0 (spec_l22Copies.l0 kq l0 l1 x5_1 = some r) ∧ Aside0 (kq ≤ k) ∧ Drawn0 w w')
  case atStart => exact ⟨(0), (by first | rfl | (simp; done) | (simp [*]; done)), H', ⟨Nat.le_refl _⟩, by repeat (first | exact Drawn0.refl _ | apply Drawn0.step)⟩
  case round =>
   clear H'
   try clear c1
   try clear p2
   try clear c4
   obtain ⟨x5_1, rfl, HA, HK1, ⟨m1, rfl⟩⟩ := hrel
   cases gk with
   | zero => exact absurd HA.out (by simp [spec_l22Copies.l0])
   | succ k1 =>
    have H := HA.out
    clear HA
    simp only [spec_l22Copies.l0] at H
    by_cases c5 : x5_1 < (l1.length : Int)
    ·rw [if_pos c5] at H
     have c5b0 : decide (x5_1 < (l1.length : Int)) = true := decide_eq_true c5
     clear c5
     by_cases c6 : 0 ≤ x5_1
     ·rw [if_pos c6] at H
      have c6b0 : decide (0 ≤ x5_1) = true := decide_eq_true c6
      clear c6
      replace H := bm.mp H
      obtain ⟨t185, A70, H⟩ := H
      (try dsimp only at H)
      have A7 := aa A70
      clear A70
      by_cases c8 : t185 = true
      ·subst c8
       have H1 : (spec_l22Copies.l0 k1 l0 l1 (wrap64 (x5_1 + 1))) = some r := by rw [if_pos rfl] at H; exact H
       clear H
       have H := H1
       clear H1
       have H' := aa H
       clear H
       have p184 : 0 ≤ (x5_1 : Int) := of_decide_eq_true (by first | (with_reducible assumption) | assumption)
       have q184 : x5_1 < (l1.length : Int) := of_decide_eq_true (by first | (with_reducible assumption) | assumption)
       obtain ⟨ad184, A184_0, c184_0, e184, hx184_0, hl184_0, hi184_0⟩ := at_L1 HR1.out x5_1 p184 q184
       cases e184
       have HR184_0 := aa hi184_0
       have HC184_0 := aa hl184_0
       clear hi184_0 hl184_0
       replace p184 := eq_true p184
       replace q184 := eq_true q184
       go_wp2_with (first | ((with_reducible refine gate_callee (f := 59) rfl ?_); refine goesL_ (some 20) rfl rfl Try.func59 (by kernel_rfl) rfl #[.slice A184_0 (rd_L1 l1 x5_1).length c184_0] rfl (by (try simp only [List.map_toArray, List.map_cons, List.map_nil]); first | done | rfl | (simp only [List.length_drop, List.length_take]; rfl)) ?_; (with_reducible refine (spec_l22Ok.calls k1 _ _ (rd_L1 l1 x5_1) true _ ?side1 ?side2 A7.out).mono ?_); (case side1 => repeat (first | exact HR184_0.out | (with_reducible refine ak ?_ _) | (with_reducible refine al ?_ _) | (with_reducible refine am ?_))); (case side2 => exact HC184_0.out); rintro e w' ⟨rfl, ⟨nd, rfl⟩⟩; refine ⟨_, rfl, ?_⟩))
       go_roundg k1
       case measure => have := HK1.out; omega
       case rel => exact ⟨(wrap64 (x5_1 + 1)), (by first | rfl | (simp; done) | (simp [*]; done)), H', ⟨by have := HK1.out; omega⟩, by repeat (first | exact Drawn0.refl _ | apply Drawn0.step)⟩
      ·replace c8 := Bool.eq_false_iff.mpr c8
       subst c8
       have H1 : (some 1) = some r := by rw [if_neg (show ¬ (false = true) by decide)] at H; exact H
       clear H
       have H := H1
       clear H1
       obtain rfl := Option.some.inj H
       have p184 : 0 ≤ (x5_1 : Int) := of_decide_eq_true (by first | (with_reducible assumption) | assumption)
       have q184 : x5_1 < (l1.length : Int) := of_decide_eq_true (by first | (with_reducible assumption) | assumption)
       obtain ⟨ad184, A184_0, c184_0, e184, hx184_0, hl184_0, hi184_0⟩ := at_L1 HR1.out x5_1 p184 q184
       cases e184
       have HR184_0 := aa hi184_0
       have HC184_0 := aa hl184_0
       clear hi184_0 hl184_0
       replace p184 := eq_true p184
       replace q184 := eq_true q184
       go_wp2_with (first | ((with_reducible refine gate_callee (f := 59) rfl ?_); refine goesL_ (some 20) rfl rfl Try.func59 (by kernel_rfl) rfl #[.slice A184_0 (rd_L1 l1 x5_1).length c184_0] rfl (by (try simp only [List.map_toArray, List.map_cons, List.map_nil]); first | done | rfl | (simp only [List.length_drop, List.length_take]; rfl)) ?_; (with_reducible refine (spec_l22Ok.calls k1 _ _ (rd_L1 l1 x5_1) false _ ?side1 ?side2 A7.out).mono ?_); (case side1 => repeat (first | exact HR184_0.out | (with_reducible refine ak ?_ _) | (with_reducible refine al ?_ _) | (with_reducible refine am ?_))); (case side2 => exact HC184_0.out); rintro e w' ⟨rfl, ⟨nd, rfl⟩⟩; refine ⟨_, rfl, ?_⟩))
       go_ret
       exact ⟨by first | rfl | (simp; done) | (simp [*]; done), by repeat (first | exact Drawn0.refl _ | apply Drawn0.step)⟩
     ·rw [if_neg c6] at H
      exact absurd H (by simp)
    ·rw [if_neg c5] at H
     have c5b0 : decide (x5_1 < (l1.length : Int)) = false := decide_eq_false c5
     clear c5
     have H' := aa H
     clear H
     go_wp2
     go_loopg [6] k1 (fun kq v6 w' => ∃ (x6_2 : Int), v6 = .int .i64 x6_2 ∧ Aside0 (spec_l22Copies.l1 kq l0 l1 x6_2 = some r) ∧ Aside0 (kq ≤ k1) ∧ Drawn0 w w')
     case atStart => exact ⟨(0), (by first | rfl | (simp; done) | (simp [*]; done)), H', ⟨Nat.le_refl _⟩, by repeat (first | exact Drawn0.refl _ | apply Drawn0.step)⟩
     case round =>
      clear H'
      try clear c1
      try clear p1
      try clear q1
      try clear hx1
      try clear p2
      try clear c4
      try clear c5
      try clear c5b0
      try clear c6
      try clear c6b0
      try clear p6
      try clear c7
      try clear c8
      try clear hx184_0
      try clear p184
      try clear p2
      try clear q184
      obtain ⟨x6_2, rfl, HA, HK2, ⟨m2, rfl⟩⟩ := hrel
      cases gk with
      | zero => exact absurd HA.out (by simp [spec_l22Copies.l1])
      | succ k2 =>
       have H := HA.out
       clear HA
       simp only [spec_l22Copies.l1] at H
       by_cases c9 : x6_2 < (l1.length : Int)
       ·rw [if_pos c9] at H
        have c9b0 : decide (x6_2 < (l1.length : Int)) = true := decide_eq_true c9
        clear c9
        by_cases c10 : 0 ≤ x6_2
        ·rw [if_pos c10] at H
         have c10b0 : decide (0 ≤ x6_2) = true := decide_eq_true c10
         clear c10
         by_cases c11 : ((rd_L1 l1 x6_2).length : Int) = (l0.length : Int)
         ·rw [if_pos c11] at H
          have c11b0 : (((rd_L1 l1 x6_2).length : Int) == (l0.length : Int)) = true := beq_iff_eq.mpr c11
          have c11b1 : (((rd_L1 l1 x6_2).length : Int) != (l0.length : Int)) = false := bne_eq_false_iff_eq.mpr c11
          have c11b2 : ((rd_L1 l1 x6_2).length == l0.length) = true := by first | simpa using c11 | (simp at c11 ⊢; omega)
          clear c11
          have H' := aa H
          clear H
          have p186 : 0 ≤ (x6_2 : Int) := of_decide_eq_true (by first | (with_reducible assumption) | assumption)
          have q186 : x6_2 < (l1.length : Int) := of_decide_eq_true (by first | (with_reducible assumption) | assumption)
          obtain ⟨ad186, A186_0, c186_0, e186, hx186_0, hl186_0, hi186_0⟩ := at_L1 HR1.out x6_2 p186 q186
          cases e186
          have HR186_0 := aa hi186_0
          have HC186_0 := aa hl186_0
          clear hi186_0 hl186_0
          replace p186 := eq_true p186
          replace q186 := eq_true q186
          go_wp2
          go_roundg k2
          case measure => have := HK1.out; have := HK2.out; omega
          case rel => exact ⟨(wrap64 (x6_2 + 1)), (by first | rfl | (simp; done) | (simp [*]; done)), H', ⟨by have := HK1.out; have := HK2.out; omega⟩, by repeat (first | exact Drawn0.refl _ | apply Drawn0.step)⟩
         ·rw [if_neg c11] at H
          have c11b0 : (((rd_L1 l1 x6_2).length : Int) == (l0.length : Int)) = false := beq_eq_false_iff_ne.mpr c11
          have c11b1 : (((rd_L1 l1 x6_2).length : Int) != (l0.length : Int)) = true := bne_iff_ne.mpr c11
          have c11b2 : ((rd_L1 l1 x6_2).length == l0.length) = false := by first | simpa using c11 | (simp at c11 ⊢; omega)
          obtain rfl := Option.some.inj H
          have p186 : 0 ≤ (x6_2 : Int) := of_decide_eq_true (by first | (with_reducible assumption) | assumption)
          have q186 : x6_2 < (l1.length : Int) := of_decide_eq_true (by first | (with_reducible assumption) | assumption)
          obtain ⟨ad186, A186_0, c186_0, e186, hx186_0, hl186_0, hi186_0⟩ := at_L1 HR1.out x6_2 p186 q186
          cases e186
          have HR186_0 := aa hi186_0
          have HC186_0 := aa hl186_0
          clear hi186_0 hl186_0
          replace p186 := eq_true p186
          replace q186 := eq_true q186
          go_wp2
          go_ret
          exact ⟨by first | rfl | (simp; done) | (simp [*]; done), by repeat (first | exact Drawn0.refl _ | apply Drawn0.step)⟩
        ·rw [if_neg c10] at H
         exact absurd H (by simp)
       ·rw [if_neg c9] at H
        have c9b0 : decide (x6_2 < (l1.length : Int)) = false := decide_eq_false c9
        clear c9
        by_cases c12 : (l1.length : Int) > 8
        ·rw [if_pos c12] at H
         have c12b0 : decide (8 < (l1.length : Int)) = true := decide_eq_true c12
         have c12b1 : decide (8 < l1.length) = true := decide_eq_true (by omega)
         clear c12
         obtain rfl := Option.some.inj H
         go_wp2
         go_ret
         exact ⟨by first | rfl | (simp; done) | (simp [*]; done), by repeat (first | exact Drawn0.refl _ | apply Drawn0.step)⟩
        ·rw [if_neg c12] at H
         have c12b0 : decide (8 < (l1.length : Int)) = false := decide_eq_false c12
         have c12b1 : decide (8 < l1.length) = false := decide_eq_false (by omega)
         clear c12
         obtain rfl := Option.some.inj H
         go_wp2
         go_ret
         exact ⟨by first | rfl | (simp; done) | (simp [*]; done), by repeat (first | exact Drawn0.refl _ | apply Drawn0.step)⟩
 ·replace c4 := Bool.eq_false_iff.mpr c4
  subst c4
  have H1 : (some 1) = some r := by rw [if_neg (show ¬ (false = true) by decide)] at H; exact H
  clear H
  have H := H1
  clear H1
  obtain rfl := Option.some.inj H
  go_enter Try.func75, Try.ntmps75
  go_wp2_with (first | ((with_reducible refine gate_callee (f := 59) rfl ?_); refine goesL_ (some 8) rfl rfl Try.func59 (by kernel_rfl) rfl #[.slice A0 l0.length c0] rfl (by (try simp only [List.map_toArray, List.map_cons, List.map_nil]); first | done | rfl | (simp only [List.length_drop, List.length_take]; rfl)) ?_; (with_reducible refine (spec_l22Ok.calls k _ _ l0 false _ ?side1 ?side2 A3.out).mono ?_); (case side1 => repeat (first | exact HR0.out | (with_reducible refine ak ?_ _) | (with_reducible refine al ?_ _) | (with_reducible refine am ?_))); (case side2 => exact HC0.out); rintro e w' ⟨rfl, ⟨nd, rfl⟩⟩; refine ⟨_, rfl, ?_⟩))
  go_ret
  exact ⟨by first | rfl | (simp; done) | (simp [*]; done), by repeat (first | exact Drawn0.refl _ | apply Drawn0.step)⟩

/-! ### spec_RepairsFor: function 41 -/
mutual
def spec_RepairsFor.l0 : Nat → List Int → List (List Int) → List (S64) → Int → Option ((List (S64)) × Int)
 | 0, _, _, _, _ => none
 | k + 1, x0, x1, x7, x8 => if x8 < (x0.length : Int) then (if 0 ≤ x8 then (if (rd x0 x8) = 1 then (spec_RepairsFor.l1 k x0 x1 x7 x8 3 0) else (spec_RepairsFor.l0 k x0 x1 x7 (wrap64 (x8 + 1)))) else (none)) else (some (x7, 0))
def spec_RepairsFor.l1 : Nat → List Int → List (List Int) → List (S64) → Int → Int → Int → Option ((List (S64)) × Int)
 | 0, _, _, _, _, _, _ => none
 | k + 1, x0, x1, x7, x8, x9, x10 => if x10 < (x1.length : Int) then (if 0 ≤ x10 then (if 0 ≤ x8 then (if x8 < ((rd_L1 x1 x10).length : Int) then (if (rd (rd_L1 x1 x10) x8) = 0 then (spec_RepairsFor.l1 k x0 x1 x7 x8 2 (wrap64 (x10 + 1))) else (spec_RepairsFor.l1 k x0 x1 x7 x8 x9 (wrap64 (x10 + 1)))) else (none)) else (none)) else (none)) else (if x7.length < 5864062014805 then (spec_RepairsFor.l0 k x0 x1 (x7 ++ [(⟨x8, 1, x9⟩ : S64)]) (wrap64 (x8 + 1))) else (none))
end
def spec_RepairsFor.f (k : Nat) (l0 : List Int) (l1 : List (List Int)) : Option ((List (S64)) × Int) := (spec_l22Copies.f k l0 l1).bind fun t187 => (if t187 = 0 then (spec_RepairsFor.l0 k l0 l1 (([] : List (S64))) 0) else (some (([] : List (S64)), t187)))
theorem spec_RepairsFor.mono_l : ∀ k, (∀ y0 y1 y2 y3, LeO (spec_RepairsFor.l0 k y0 y1 y2 y3) (spec_RepairsFor.l0 (k + 1) y0 y1 y2 y3)) ∧ (∀ y0 y1 y2 y3 y4 y5, LeO (spec_RepairsFor.l1 k y0 y1 y2 y3 y4 y5) (spec_RepairsFor.l1 (k + 1) y0 y1 y2 y3 y4 y5))
 | 0 => ⟨fun _ _ _ _ r h => by simp [spec_RepairsFor.l0] at h, fun _ _ _ _ _ _ r h => by simp [spec_RepairsFor.l1] at h⟩
 | k + 1 => by
  obtain ⟨ih0, ih1⟩ := spec_RepairsFor.mono_l k
  refine ⟨?_, ?_⟩
  ·intro y0 y1 y2 y3
   unfold spec_RepairsFor.l0
   repeat' first
   | (with_reducible exact ih0 _ _ _ _)
   | (with_reducible exact ih1 _ _ _ _ _ _)
   | (with_reducible exact spec_l22Copies.mono _ _ _)
   | (with_reducible exact LeO.refl _)
   | (with_reducible exact LeO.none _)
   | (with_reducible refine LeO.ite ?_ ?_)
   | (with_reducible refine LeO.bind ?_ (fun _ => ?_))
   | exact ih0 _ _ _ _
   | exact ih1 _ _ _ _ _ _
   | exact spec_l22Copies.mono _ _ _
   | exact LeO.none _
   | refine LeO.ite ?_ ?_
   | refine LeO.bind ?_ (fun _ => ?_)
  ·intro y0 y1 y2 y3 y4 y5
   unfold spec_RepairsFor.l1
   repeat' first
   | (with_reducible exact ih0 _ _ _ _)
   | (with_reducible exact ih1 _ _ _ _ _ _)
   | (with_reducible exact spec_l22Copies.mono _ _ _)
   | (with_reducible exact LeO.refl _)
   | (with_reducible exact LeO.none _)
   | (with_reducible refine LeO.ite ?_ ?_)
   | (with_reducible refine LeO.bind ?_ (fun _ => ?_))
   | exact ih0 _ _ _ _
   | exact ih1 _ _ _ _ _ _
   | exact spec_l22Copies.mono _ _ _
   | exact LeO.none _
   | refine LeO.ite ?_ ?_
   | refine LeO.bind ?_ (fun _ => ?_)
theorem spec_RepairsFor.mono : ∀ a0 a1 k, LeO (spec_RepairsFor.f k a0 a1) (spec_RepairsFor.f (k + 1) a0 a1) := by
 intro a0 a1 k
 obtain ⟨ih0, ih1⟩ := spec_RepairsFor.mono_l k
 unfold spec_RepairsFor.f
 repeat' first
   | (with_reducible exact ih0 _ _ _ _)
   | (with_reducible exact ih1 _ _ _ _ _ _)
   | (with_reducible exact spec_l22Copies.mono _ _ _)
   | (with_reducible exact LeO.refl _)
   | (with_reducible exact LeO.none _)
   | (with_reducible refine LeO.ite ?_ ?_)
   | (with_reducible refine LeO.bind ?_ (fun _ => ?_))
   | exact ih0 _ _ _ _
   | exact ih1 _ _ _ _ _ _
   | exact spec_l22Copies.mono _ _ _
   | exact LeO.none _
   | refine LeO.ite ?_ ?_
   | refine LeO.bind ?_ (fun _ => ?_)
set_option maxHeartbeats 8000000 in
set_option maxRecDepth 100000 in
theorem spec_RepairsFor.calls (k : Nat) (A0 : Option Addr) (c0 : Nat) (l0 : List Int) (A1 : Option Addr) (c1 : Nat) (l1 : List (List Int)) (r1 : List (S64)) (r2 : Int) (w : World) (hr0 : Kd.C (Kd.int .i64) w A0 l0.length l0) (hc0 : l0.length ≤ c0) (hr1 : Kd.C (Kd.slice 2 (Kd.int .i64)) w A1 l1.length l1) (hc1 : l1.length ≤ c1) (h : spec_RepairsFor.f k l0 l1 = some (r1, r2)) :
  Calls Try.prog 41 #[.slice A0 l0.length c0, .slice A1 l1.length c1] w fun e w' => ∃ v0_ : Value, e = .returned (.tuple #[v0_, .int .i64 r2]) ∧ Kd.R k64 64 w' w.heap.size (fun _ => True) v0_ r1 ∧ Below w.heap.size w w' := by
 have hu64 := Try.underlying64
 have HR0 := aa hr0
 have HC0 := aa hc0
 clear hr0 hc0
 have HR1 := aa hr1
 have HC1 := aa hc1
 clear hr1 hc1
 have HB := aa (Below.refl w.heap.size w)
 have H : ((spec_l22Copies.f k l0 l1).bind fun t187 => (if t187 = 0 then (spec_RepairsFor.l0 k l0 l1 (([] : List (S64))) 0) else (some (([] : List (S64)), t187)))) = some (r1, r2) := h
 clear h
 replace H := bm.mp H
 obtain ⟨t187, A30, H⟩ := H
 (try dsimp only at H)
 have A3 := aa A30
 clear A30
 by_cases c4 : t187 = 0
 ·rw [if_pos c4] at H
  have c4b0 : (t187 == 0) = true := beq_iff_eq.mpr c4
  have c4b1 : (t187 != 0) = false := bne_eq_false_iff_eq.mpr c4
  clear c4
  obtain ⟨y188, hy188⟩ : ∃ y_ : List (S64), y_ = (([] : List (S64))) := ⟨_, rfl⟩
  replace H : (spec_RepairsFor.l0 k l0 l1 y188 0) = some (r1, r2) := by first | (rw [hy188]; with_reducible exact H) | (have H2_ := (Option.bind_some _ _).symm.trans H; rw [hy188]; with_reducible exact H2_) | (have H2_ := (Option.bind_some _ _).symm.trans H; with_reducible exact H2_) | with_reducible exact H | (rw [hy188]; exact H) | exact H
  have Ny188 := aa hy188
  clear hy188
  have H' := aa H
  clear H
  go_enter Try.func41, Try.ntmps41
  go_wp2_with (first | ((with_reducible refine gate_callee (f := 75) rfl ?_); refine goesL_ (some 13) rfl rfl Try.func75 (by kernel_rfl) rfl #[.slice A0 l0.length c0, .slice A1 l1.length c1] rfl (by (try simp only [List.map_toArray, List.map_cons, List.map_nil]); first | done | rfl | (simp only [List.length_drop, List.length_take]; rfl)) ?_; (with_reducible refine (spec_l22Copies.calls k _ _ l0 _ _ l1 t187 _ ?side1 ?side2 ?side3 ?side4 A3.out).mono ?_); (case side1 => repeat (first | exact HR0.out | (with_reducible refine ak ?_ _) | (with_reducible refine al ?_ _) | (with_reducible refine am ?_))); (case side2 => exact HC0.out); (case side3 => repeat (first | exact HR1.out | (with_reducible refine ak ?_ _) | (with_reducible refine al ?_ _) | (with_reducible refine am ?_))); (case side4 => exact HC1.out); rintro e w' ⟨rfl, ⟨nd, rfl⟩⟩; refine ⟨_, rfl, ?_⟩) | ((with_reducible refine gate_dst (N := 17) rfl ?_); refine Kd.R_lit k64 _ 64 ?hg (N := 17) ?hd (xs := ([] : List (S64))) (inner := []) (ok := fun _ => True) (okp := fun _ => True) ?hr ?hp (fun _ hk => hk) trivial (Below.refl _ _) (Nat.le_refl _) (by simp) ?_; (case hd => rfl); (case hg => rfl); (case hr => first | (go_simp; done) | (go_simp; rfl)); (case hp => exact (Reps.none _ _)); intro v189 w5 ho6 hb hg_ hnew_; clear hg_ hnew_; (first | rw [← Ny188.out] at ho6 | (simp only [Int.reduceToNat] at ho6; rw [← Ny188.out] at ho6)); have n0_ := aa (bd ho6 (ar (by repeat (first | (with_reducible first | exact HB.out | apply ah | apply ae | apply ag) | exact HB.out)))); have n1_ := aa (ay (by repeat (first | (with_reducible first | exact HB.out | apply ah | apply ae | apply ag) | exact HB.out)) hb); clear HB; have HO190 := n0_; have HB := n1_; clear n0_ n1_; clear hb ho6))
  go_loopg [7, 8] k (fun kq v7 v8 w' => ∃ (x7_1 : List (S64)) (x8_1 : Int), v8 = .int .i64 x8_1 ∧ Aside0 (spec_RepairsFor.l0 kq l0 l1 x7_1 x8_1 = some (r1, r2)) ∧ Aside0 (kq ≤ k) ∧ Aside0 (Kd.R k64 64 w' w.heap.size (fun _ => True) v7 x7_1) ∧ Aside0 (Below w.heap.size w w'))
  case atStart => exact ⟨(y188), (0), (by first | rfl | (simp; done) | (simp [*]; done)), H', ⟨Nat.le_refl _⟩, ⟨by (with_reducible repeat (first | apply ab | apply ac | apply af)); exact HO190.out⟩, ⟨by repeat (first | (with_reducible first | exact HB.out | apply ah | apply ae | apply ag) | exact HB.out)⟩⟩
  case round =>
   clear H'
   try clear c1
   try clear p2
   try clear c4
   try clear c4b0
   try clear c4b1
   obtain ⟨x7_1, x8_1, rfl, HA, HK1, HO_7, HB⟩ := hrel
   cases gk with
   | zero => exact absurd HA.out (by simp [spec_RepairsFor.l0])
   | succ k1 =>
    have H := HA.out
    clear HA
    simp only [spec_RepairsFor.l0] at H
    by_cases c7 : x8_1 < (l0.length : Int)
    ·rw [if_pos c7] at H
     have c7b0 : decide (x8_1 < (l0.length : Int)) = true := decide_eq_true c7
     clear c7
     by_cases c8 : 0 ≤ x8_1
     ·rw [if_pos c8] at H
      have c8b0 : decide (0 ≤ x8_1) = true := decide_eq_true c8
      clear c8
      by_cases c9 : (rd l0 x8_1) = 1
      ·rw [if_pos c9] at H
       have c9b0 : ((rd l0 x8_1) == 1) = true := beq_iff_eq.mpr c9
       have c9b1 : ((rd l0 x8_1) != 1) = false := bne_eq_false_iff_eq.mpr c9
       clear c9
       have H' := aa H
       clear H
       have p191 : 0 ≤ (x8_1 : Int) := of_decide_eq_true (by first | (with_reducible assumption) | assumption)
       have q191 : x8_1 < (l0.length : Int) := of_decide_eq_true (by first | (with_reducible assumption) | assumption)
       obtain ⟨ad191, e191, hx191_0⟩ := bj HR0.out x8_1 p191 q191
       cases e191
       replace hx191_0 := (HB.out.cell (World.block_lt_of_cell? w _ hx191_0)).trans hx191_0
       replace p191 := eq_true p191
       replace q191 := eq_true q191
       go_wp2
       go_loopg [9, 10] k1 (fun kq v9 v10 w' => ∃ (x9_2 : Int) (x10_2 : Int), v9 = .int .i64 x9_2 ∧ v10 = .int .i64 x10_2 ∧ Aside0 (spec_RepairsFor.l1 kq l0 l1 x7_1 x8_1 x9_2 x10_2 = some (r1, r2)) ∧ Aside0 (kq ≤ k1) ∧ Aside0 (Kd.R k64 64 w' w.heap.size (fun _ => True) u7 x7_1) ∧ Aside0 (Below w.heap.size w w'))
       case atStart => exact ⟨(3), (0), (by first | rfl | (simp; done) | (simp [*]; done)), (by first | rfl | (simp; done) | (simp [*]; done)), H', ⟨Nat.le_refl _⟩, ⟨by (with_reducible repeat (first | apply ab | apply ac | apply af)); exact HO_7.out⟩, ⟨by repeat (first | (with_reducible first | exact HB.out | apply ah | apply ae | apply ag) | exact HB.out)⟩⟩
       case round =>
        clear H'
        try clear c1
        try clear p1
        try clear q1
        try clear hx1
        try clear p2
        try clear c4
        try clear c4b0
        try clear c4b1
        try clear c7
        try clear c7b0
        try clear c8
        try clear c8b0
        try clear c9
        try clear c9b0
        try clear c9b1
        try clear hx191_0
        try clear p191
        try clear p2
        try clear q191
        obtain ⟨x9_2, x10_2, rfl, rfl, HA, HK2, HO_7, HB⟩ := hrel
        cases gk with
        | zero => exact absurd HA.out (by simp [spec_RepairsFor.l1])
        | succ k2 =>
         have H := HA.out
         clear HA
         simp only [spec_RepairsFor.l1] at H
         by_cases c10 : x10_2 < (l1.length : Int)
         ·rw [if_pos c10] at H
          have c10b0 : decide (x10_2 < (l1.length : Int)) = true := decide_eq_true c10
          clear c10
          by_cases c11 : 0 ≤ x10_2
          ·rw [if_pos c11] at H
           have c11b0 : decide (0 ≤ x10_2) = true := decide_eq_true c11
           clear c11
           by_cases c12 : 0 ≤ x8_1
           ·rw [if_pos c12] at H
            have c12b0 : decide (0 ≤ x8_1) = true := decide_eq_true c12
            clear c12
            by_cases c13 : x8_1 < ((rd_L1 l1 x10_2).length : Int)
            ·rw [if_pos c13] at H
             have c13b0 : decide (x8_1 < ((rd_L1 l1 x10_2).length : Int)) = true := decide_eq_true c13
             clear c13
             by_cases c14 : (rd (rd_L1 l1 x10_2) x8_1) = 0
             ·rw [if_pos c14] at H
              have c14b0 : ((rd (rd_L1 l1 x10_2) x8_1) == 0) = true := beq_iff_eq.mpr c14
              have c14b1 : ((rd (rd_L1 l1 x10_2) x8_1) != 0) = false := bne_eq_false_iff_eq.mpr c14
              clear c14
              have H' := aa H
              clear H
              have p192 : 0 ≤ (x10_2 : Int) := of_decide_eq_true (by first | (with_reducible assumption) | assumption)
              have q192 : x10_2 < (l1.length : Int) := of_decide_eq_true (by first | (with_reducible assumption) | assumption)
              obtain ⟨ad192, A192_0, c192_0, e192, hx192_0, hl192_0, hi192_0⟩ := at_L1 HR1.out x10_2 p192 q192
              cases e192
              replace hx192_0 := (HB.out.cell (World.block_lt_of_cell? w _ hx192_0)).trans hx192_0
              have HR192_0 := aa hi192_0
              have HC192_0 := aa hl192_0
              clear hi192_0 hl192_0
              replace p192 := eq_true p192
              replace q192 := eq_true q192
              have p193 : 0 ≤ (x8_1 : Int) := of_decide_eq_true (by first | (with_reducible assumption) | assumption)
              have q193 : x8_1 < ((rd_L1 l1 x10_2).length : Int) := of_decide_eq_true (by first | (with_reducible assumption) | assumption)
              obtain ⟨ad193, e193, hx193_0⟩ := bj HR192_0.out x8_1 p193 q193
              cases e193
              replace hx193_0 := (HB.out.cell (World.block_lt_of_cell? w _ hx193_0)).trans hx193_0
              replace p193 := eq_true p193
              replace q193 := eq_true q193
              go_wp2
              go_roundg k2
              case measure => have := HK1.out; have := HK2.out; omega
              case rel => exact ⟨(2), (wrap64 (x10_2 + 1)), (by first | rfl | (simp; done) | (simp [*]; done)), (by first | rfl | (simp; done) | (simp [*]; done)), H', ⟨by have := HK1.out; have := HK2.out; omega⟩, ⟨by (with_reducible repeat (first | apply ab | apply ac | apply af)); exact HO_7.out⟩, ⟨by repeat (first | (with_reducible first | exact HB.out | apply ah | apply ae | apply ag) | exact HB.out)⟩⟩
             ·rw [if_neg c14] at H
              have c14b0 : ((rd (rd_L1 l1 x10_2) x8_1) == 0) = false := beq_eq_false_iff_ne.mpr c14
              have c14b1 : ((rd (rd_L1 l1 x10_2) x8_1) != 0) = true := bne_iff_ne.mpr c14
              have H' := aa H
              clear H
              have p192 : 0 ≤ (x10_2 : Int) := of_decide_eq_true (by first | (with_reducible assumption) | assumption)
              have q192 : x10_2 < (l1.length : Int) := of_decide_eq_true (by first | (with_reducible assumption) | assumption)
              obtain ⟨ad192, A192_0, c192_0, e192, hx192_0, hl192_0, hi192_0⟩ := at_L1 HR1.out x10_2 p192 q192
              cases e192
              replace hx192_0 := (HB.out.cell (World.block_lt_of_cell? w _ hx192_0)).trans hx192_0
              have HR192_0 := aa hi192_0
              have HC192_0 := aa hl192_0
              clear hi192_0 hl192_0
              replace p192 := eq_true p192
              replace q192 := eq_true q192
              have p193 : 0 ≤ (x8_1 : Int) := of_decide_eq_true (by first | (with_reducible assumption) | assumption)
              have q193 : x8_1 < ((rd_L1 l1 x10_2).length : Int) := of_decide_eq_true (by first | (with_reducible assumption) | assumption)
              obtain ⟨ad193, e193, hx193_0⟩ := bj HR192_0.out x8_1 p193 q193
              cases e193
              replace hx193_0 := (HB.out.cell (World.block_lt_of_cell? w _ hx193_0)).trans hx193_0
              replace p193 := eq_true p193
              replace q193 := eq_true q193
              go_wp2
              go_roundg k2
              case measure => have := HK1.out; have := HK2.out; omega
              case rel => exact ⟨(x9_2), (wrap64 (x10_2 + 1)), (by first | rfl | (simp; done) | (simp [*]; done)), (by first | rfl | (simp; done) | (simp [*]; done)), H', ⟨by have := HK1.out; have := HK2.out; omega⟩, ⟨by (with_reducible repeat (first | apply ab | apply ac | apply af)); exact HO_7.out⟩, ⟨by repeat (first | (with_reducible first | exact HB.out | apply ah | apply ae | apply ag) | exact HB.out)⟩⟩
            ·rw [if_neg c13] at H
             exact absurd H (by simp)
           ·rw [if_neg c12] at H
            exact absurd H (by simp)
          ·rw [if_neg c11] at H
           exact absurd H (by simp)
         ·rw [if_neg c10] at H
          have c10b0 : decide (x10_2 < (l1.length : Int)) = false := decide_eq_false c10
          clear c10
          by_cases c15 : x7_1.length < 5864062014805
          ·rw [if_pos c15] at H
           have LMc15 := aa c15
           clear c15
           obtain ⟨y194, hy194⟩ : ∃ y_ : List (S64), y_ = (x7_1 ++ [(⟨x8_1, 1, x9_2⟩ : S64)]) := ⟨_, rfl⟩
           replace H : (spec_RepairsFor.l0 k2 l0 l1 y194 (wrap64 (x8_1 + 1))) = some (r1, r2) := by first | (rw [hy194]; with_reducible exact H) | (have H2_ := (Option.bind_some _ _).symm.trans H; rw [hy194]; with_reducible exact H2_) | (have H2_ := (Option.bind_some _ _).symm.trans H; with_reducible exact H2_) | with_reducible exact H | (rw [hy194]; exact H) | exact H
           have Ny194 := aa hy194
           clear hy194
           have H' := aa H
           clear H
           go_wp2_with (first | ((with_reducible refine gate_builtin (b := .append) (xs := #[.tmp 43, .tmp 47]) rfl ?_); at_builtin; refine Kd.R_append k64 (w0 := w) w.heap.size rfl (.tmp 43) (.tmp 47) 41 64 (.agg #[(.int .i64 0), (.int .i64 0), (.int .i64 0)]) 24 rfl Try.underlying41 info64 rfl (by decide) (by omega) u7 x7_1 (⟨x8_1, 1, x9_2⟩ : S64) [.int .i64 x8_1, .int .i64 1, .int .i64 x9_2] (fun _ => True) (fun _ => False) rfl rfl ?aP (fun _ hk => hk.elim) ?aF ?aO ?aB ?aS ?aL ?_; (case aP => exact k64_mkM _ _ _ (⟨x8_1, 1, x9_2⟩ : S64)); (case aB => exact (by repeat (first | (with_reducible first | exact HB.out | apply ah | apply ae | apply ag) | exact HB.out))); (case aF => exact (fun _ _ => trivial)); (case aO => exact (by (with_reducible repeat (first | apply ab | apply ac | apply af)); exact HO_7.out)); (case aS => exact (ar (by repeat (first | (with_reducible first | exact HB.out | apply ah | apply ae | apply ag) | exact HB.out)))); (case aL => have := LMc15.out; omega); intro v195 w16 ho hb hg hat; rw [← Ny194.out] at ho; have n0_ := aa (hb); have n1_ := aa (ho); clear HB; clear HO_7; have HB := n0_; have HO196 := n1_; clear n0_ n1_; clear ho hb hg hat))
           go_roundg k2
           case measure => have := HK1.out; have := HK2.out; omega
           case rel => exact ⟨(y194), (wrap64 (x8_1 + 1)), (by first | rfl | (simp; done) | (simp [*]; done)), H', ⟨by have := HK1.out; have := HK2.out; omega⟩, ⟨by (with_reducible repeat (first | apply ab | apply ac | apply af)); exact HO196.out⟩, ⟨by repeat (first | (with_reducible first | exact HB.out | apply ah | apply ae | apply ag) | exact HB.out)⟩⟩
          ·rw [if_neg c15] at H
           exact absurd H (by simp)
      ·rw [if_neg c9] at H
       have c9b0 : ((rd l0 x8_1) == 1) = false := beq_eq_false_iff_ne.mpr c9
       have c9b1 : ((rd l0 x8_1) != 1) = true := bne_iff_ne.mpr c9
       have H' := aa H
       clear H
       have p191 : 0 ≤ (x8_1 : Int) := of_decide_eq_true (by first | (with_reducible assumption) | assumption)
       have q191 : x8_1 < (l0.length : Int) := of_decide_eq_true (by first | (with_reducible assumption) | assumption)
       obtain ⟨ad191, e191, hx191_0⟩ := bj HR0.out x8_1 p191 q191
       cases e191
       replace hx191_0 := (HB.out.cell (World.block_lt_of_cell? w _ hx191_0)).trans hx191_0
       replace p191 := eq_true p191
       replace q191 := eq_true q191
       go_wp2
       go_roundg k1
       case measure => have := HK1.out; omega
       case rel => exact ⟨(x7_1), (wrap64 (x8_1 + 1)), (by first | rfl | (simp; done) | (simp [*]; done)), H', ⟨by have := HK1.out; omega⟩, ⟨by (with_reducible repeat (first | apply ab | apply ac | apply af)); exact HO_7.out⟩, ⟨by repeat (first | (with_reducible first | exact HB.out | apply ah | apply ae | apply ag) | exact HB.out)⟩⟩
     ·rw [if_neg c8] at H
      exact absurd H (by simp)
    ·rw [if_neg c7] at H
     have c7b0 : decide (x8_1 < (l0.length : Int)) = false := decide_eq_false c7
     clear c7
     simp only [Option.some.injEq, Prod.mk.injEq] at H
     obtain ⟨rfl, rfl⟩ := H
     go_wp2
     go_ret2
     exact ⟨_, by first | rfl | (simp [errW_none, errW_some] <;> rfl) | (simp [*, errW_none, errW_some] <;> rfl), by (with_reducible repeat (first | apply ab | apply ac | apply af)); exact HO_7.out, by repeat (first | (with_reducible first | exact HB.out | apply ah | apply ae | apply ag) | exact HB.out)⟩
 ·rw [if_neg c4] at H
  have c4b0 : (t187 == 0) = false := beq_eq_false_iff_ne.mpr c4
  have c4b1 : (t187 != 0) = true := bne_iff_ne.mpr c4
  simp only [Option.some.injEq, Prod.mk.injEq] at H
  obtain ⟨rfl, rfl⟩ := H
  go_enter Try.func41, Try.ntmps41
  go_wp2_with (first | ((with_reducible refine gate_callee (f := 75) rfl ?_); refine goesL_ (some 13) rfl rfl Try.func75 (by kernel_rfl) rfl #[.slice A0 l0.length c0, .slice A1 l1.length c1] rfl (by (try simp only [List.map_toArray, List.map_cons, List.map_nil]); first | done | rfl | (simp only [List.length_drop, List.length_take]; rfl)) ?_; (with_reducible refine (spec_l22Copies.calls k _ _ l0 _ _ l1 t187 _ ?side1 ?side2 ?side3 ?side4 A3.out).mono ?_); (case side1 => repeat (first | exact HR0.out | (with_reducible refine ak ?_ _) | (with_reducible refine al ?_ _) | (with_reducible refine am ?_))); (case side2 => exact HC0.out); (case side3 => repeat (first | exact HR1.out | (with_reducible refine ak ?_ _) | (with_reducible refine al ?_ _) | (with_reducible refine am ?_))); (case side4 => exact HC1.out); rintro e w' ⟨rfl, ⟨nd, rfl⟩⟩; refine ⟨_, rfl, ?_⟩))
  go_ret2
  exact ⟨_, by first | rfl | (simp [errW_none, errW_some] <;> rfl) | (simp [*, errW_none, errW_some] <;> rfl), by first | exact Kd.R_nil _ _ _ _ _ | exact Kd.N_nil _ _ _ _ _ | exact Kd.V_nil _ _ _ _ _ | exact Kd.Q_nil _ _ _ _ _ | exact Kd.S_nil _ _ _ _ _, by repeat (first | (with_reducible first | exact HB.out | apply ah | apply ae | apply ag) | exact HB.out)⟩

/-! ### impl_copiesCode_1: function 105 -/
def impl_copiesCode_1.f (l0 : List Int) : Option (Bool) := (impl_ValidStates.f l0).bind fun t197 => (some (!t197))
set_option maxHeartbeats 8000000 in
set_option maxRecDepth 100000 in
theorem impl_copiesCode_1.calls (A0 : Option Addr) (c0 : Nat) (l0 : List Int) (r : Bool) (w : World) (hr0 : Kd.C (Kd.int .i64) w A0 l0.length l0) (hc0 : l0.length ≤ c0) (h : impl_copiesCode_1.f l0 = some r) :
  Calls Try.prog 105 #[.slice A0 l0.length c0] w fun e w' => e = .returned (.bool r) ∧ Below w.heap.size w w' := by
 have HR0 := aa hr0
 have HC0 := aa hc0
 clear hr0 hc0
 have HB := aa (Below.refl w.heap.size w)
 have H : ((impl_ValidStates.f l0).bind fun t197 => (some (!t197))) = some r := h
 clear h
 replace H := bm.mp H
 obtain ⟨t197, A20, H⟩ := H
 replace H : (some (!t197)) = some r := H
 have A2 := aa A20
 clear A20
 obtain rfl := Option.some.inj H
 go_enter Try.func105, Try.ntmps105
 go_wp2_with (first | ((with_reducible refine gate_callee (f := 17) rfl ?_); refine goesL_ (some 4) rfl rfl Try.func17 (by kernel_rfl) rfl #[.slice A0 l0.length c0] rfl (by (try simp only [List.map_toArray, List.map_cons, List.map_nil]); first | done | rfl | (simp only [List.length_drop, List.length_take]; rfl)) ?_; (with_reducible refine (impl_ValidStates.calls _ _ l0 t197 _ ?side1 ?side2 A2.out).mono ?_); (case side1 => repeat (first | exact HR0.out | (with_reducible refine ak ?_ _) | (with_reducible refine al ?_ _) | (with_reducible refine am ?_))); (case side2 => exact HC0.out); rintro e w3 ⟨rfl, hb⟩; refine ⟨_, rfl, ?_⟩; have n0_ := aa (ay (by repeat (first | (with_reducible first | exact HB.out | apply ah | apply ae | apply ag) | exact HB.out)) hb); clear HB; have HB := n0_; clear n0_; (try clear hb); (try clear hb2); (try clear hk); (try clear hi)))
 go_ret
 exact ⟨by first | rfl | (simp [errW_none, errW_some] <;> rfl) | (simp [*, errW_none, errW_some] <;> rfl), by repeat (first | (with_reducible first | exact HB.out | apply ah | apply ae | apply ag) | exact HB.out)⟩

-- inside a hand-given walk: function 120 (slices_IndexFunc_int64_int64_120)

-- inside a hand-given walk: function 107 (slices_ContainsFunc_int64_int64_107)

/-! ### impl_copiesCode: function 76 -/
/-! slices.IndexFunc and slices.ContainsFunc of [][]int64 at a predicate that may lay blocks of its own -/
theorem rows_mem (l0 : List (List Int)) (kk : Nat) (h : kk < l0.length) : rd_L1 l0 (kk : Int) ∈ l0 := by
 unfold rd_L1
 rw [Int.toNat_natCast, List.getD_eq_getElem?_getD, List.getElem?_eq_getElem h]
 exact List.getElem_mem _
theorem rows_none (p : (List Int) → Bool) (l0 : List (List Int)) (h : ∀ j : Nat, j < l0.length → p (rd_L1 l0 (j : Int)) = false) : l0.any p = false := by
 rw [List.any_eq_false]
 intro x hx
 obtain ⟨j, hj, rfl⟩ := List.getElem_of_mem hx
 have := h j hj
 unfold rd_L1 at this
 rw [Int.toNat_natCast, List.getD_eq_getElem?_getD, List.getElem?_eq_getElem hj] at this
 simpa using this
set_option maxHeartbeats 2000000 in
theorem rows_IndexFunc (p : (List Int) → Bool) (g : Nat) (lb : Array Value) (eg : ∀ args w, (callFunc g args).run Try.prog w = .ok (.enter g args) w) (A0 : Option Addr) (c0 : Nat) (l0 : List (List Int)) (w : World) (hr0 : Kd.C (Kd.slice 2 (Kd.int .i64)) w A0 l0.length l0)
  (hp : ∀ (x : List Int) (A : Option Addr) (c : Nat) (W : World), x ∈ l0 → x.length ≤ c → (Kd.int .i64).C W A x.length x → Below w.heap.size w W → Calls Try.prog g (#[.slice A x.length c] ++ lb) W fun e w' => e = .returned (.bool (p x)) ∧ Below w.heap.size w w') :
  Calls Try.prog 120 #[.slice A0 l0.length c0, .func (.func g) #[] lb] w fun e w' => (∃ r : Int, e = .returned (.int .i64 r) ∧ decide (0 ≤ r) = l0.any p) ∧ Below w.heap.size w w' := by
 have hbig := Kd.C_max hr0
 have hlen : (l0.length : Int) ≤ 9223372036854775807 := by omega
 have HR := aa hr0
 have HP := aa hp
 clear hr0 hp
 go_enter Try.func120, Try.ntmps120
 go_wp2
 go_loopg [5, 8] l0.length (fun gg _ s8 wr => ∃ kk : Nat, kk ≤ l0.length ∧ l0.length - kk ≤ gg ∧ s8 = .int .i64 kk ∧ Aside0 (Below w.heap.size w wr) ∧ Aside0 (∀ j : Nat, j < kk → p (rd_L1 l0 (j : Int)) = false))
 case atStart => exact ⟨0, Nat.zero_le _, by omega, rfl, ⟨Below.refl _ w⟩, ⟨fun j hj => absurd hj (Nat.not_lt_zero _)⟩⟩
 case round =>
  obtain ⟨kk, hkk, hg, rfl, BW, A⟩ := hrel
  by_cases hlt : kk < l0.length
  ·have hltz : (kk : Int) < (l0.length : Int) := by omega
   obtain ⟨ad, A1, c1, hA, hx0, hle, hin⟩ := at_L1 (bl HR.out BW.out) (kk : Int) (by omega) hltz
   cases hA
   have hm0 := rows_mem l0 kk hlt
   have hcall := HP.out (rd_L1 l0 (kk : Int)) A1 c1 wr hm0 hle hin BW.out
   clear hle hin
   have hs0 : p (rd_L1 l0 (kk : Int)) = p (rd_L1 l0 (kk : Int)) := rfl
   rw [Int.toNat_natCast] at hx0
   generalize hy : rd_L1 l0 (kk : Int) = y at hx0 hcall hm0
   have B := aa hy
   have M := aa hm0
   clear hy hs0 hm0
   cases hq : p y with
   | true =>
    rw [hq] at hcall
    go_wp2_with ((with_reducible refine hcall.mono ?_); rintro e w' ⟨rfl, hb'⟩)
    go_ret
    refine ⟨⟨(kk : Int), rfl, ?_⟩, hb'⟩
    rw [List.any_eq_true.2 ⟨y, M.out, hq⟩]
    exact decide_eq_true (by omega)
   | false =>
    rw [hq] at hcall
    go_wp2_with ((with_reducible refine hcall.mono ?_); rintro e w' ⟨rfl, hb'⟩)
    go_roundg (l0.length - (kk + 1))
    case measure => omega
    case rel =>
     refine ⟨kk + 1, by omega, by omega, by go_num, ⟨hb'⟩, ⟨fun j hj => ?_⟩⟩
     by_cases e : j = kk
     ·subst e; rw [B.out]; exact hq
     ·exact A.out j (by omega)
  ·have hltz : ¬ (kk : Int) < (l0.length : Int) := by omega
   go_wp2
   go_ret
   refine ⟨⟨-1, rfl, ?_⟩, BW.out⟩
   rw [rows_none p l0 (fun j hj => A.out j (by omega))]
   rfl
set_option maxHeartbeats 1000000 in
theorem rows_ContainsFunc (p : (List Int) → Bool) (g : Nat) (lb : Array Value) (eg : ∀ args w, (callFunc g args).run Try.prog w = .ok (.enter g args) w) (A0 : Option Addr) (c0 : Nat) (l0 : List (List Int)) (w : World) (hr0 : Kd.C (Kd.slice 2 (Kd.int .i64)) w A0 l0.length l0)
  (hp : ∀ (x : List Int) (A : Option Addr) (c : Nat) (W : World), x ∈ l0 → x.length ≤ c → (Kd.int .i64).C W A x.length x → Below w.heap.size w W → Calls Try.prog g (#[.slice A x.length c] ++ lb) W fun e w' => e = .returned (.bool (p x)) ∧ Below w.heap.size w w') :
  Calls Try.prog 107 #[.slice A0 l0.length c0, .func (.func g) #[] lb] w fun e w' => e = .returned (.bool (l0.any p)) ∧ Below w.heap.size w w' := by
 have hcon := rows_IndexFunc p g lb eg A0 c0 l0 w hr0 hp
 generalize l0.any p = b at hcon
 clear hr0 hp
 go_enter Try.func107, Try.ntmps107
 go_wp2_with (go_at_call 120; refine hcon.mono ?_; rintro e w' ⟨⟨q, rfl, hq⟩, hb⟩; have HB := aa hb; have HQ := aa hq; clear hb hq)
 go_ret
 refine ⟨?_, HB.out⟩
 rw [← HQ.out]
 rfl
def vst (x : List Int) : Bool := (impl_ValidStates.f x).getD false
theorem vst_is (x : List Int) : impl_ValidStates.f x = some (vst x) := by
 unfold vst impl_ValidStates.f impl_allWithin.f
 split <;> rfl
theorem vst_lit (x : List Int) : impl_copiesCode_1.f x = some (!vst x) := by
 unfold impl_copiesCode_1.f
 rw [vst_is]; rfl
set_option maxHeartbeats 4000000 in
set_option maxRecDepth 100000 in
theorem other_lit (A : Option Addr) (x c : Nat) (A0 : Option Addr) (n c0 : Nat) (B : Nat) (W : World) (hc : W.cell? ⟨B, 0, none⟩ = some (.slice A0 n c0)) :
  Calls Try.prog 106 #[.slice A x c, .pointer (some ⟨B, 0, none⟩)] W fun e w' => e = .returned (.bool (!decide ((x : Int) = (n : Int)))) ∧ Below W.heap.size W w' := by
 by_cases h : (x : Int) = (n : Int)
 ·rw [decide_eq_true h]
  have hd := decide_eq_true h
  go_enter Try.func106, Try.ntmps106
  go_wp2
  go_ret
  exact ⟨by first | rfl | (simp [h]; done) | (simp [bne, h]; done), by repeat (first | exact Below.refl _ _ | (with_reducible first | apply ae | apply ag | apply ah))⟩
 ·rw [decide_eq_false h]
  have hd := decide_eq_false h
  go_enter Try.func106, Try.ntmps106
  go_wp2
  go_ret
  exact ⟨by first | rfl | (simp [h]; done) | (simp [bne, h]; done), by repeat (first | exact Below.refl _ _ | (with_reducible first | apply ae | apply ag | apply ah))⟩
def impl_copiesCode.f (l0 : List Int) (l1 : List (List Int)) : Option (Int) := impl_check.f (vst l0 && l1.all vst) (decide ((l1.length : Int) ≤ 8) && l1.all fun x => decide ((x.length : Int) = (l0.length : Int)))
set_option maxHeartbeats 4000000 in
set_option maxRecDepth 100000 in
theorem impl_copiesCode.calls (A0 : Option Addr) (c0 : Nat) (l0 : List Int) (A1 : Option Addr) (c1 : Nat) (l1 : List (List Int)) (r : Int) (w : World) (hr0 : Kd.C (Kd.int .i64) w A0 l0.length l0) (hc0 : l0.length ≤ c0) (hr1 : Kd.C (Kd.slice 2 (Kd.int .i64)) w A1 l1.length l1) (hc1 : l1.length ≤ c1) (h : impl_copiesCode.f l0 l1 = some r) :
  Calls Try.prog 76 #[.slice A0 l0.length c0, .slice A1 l1.length c1] w fun e w' => e = .returned (.int .i64 r) ∧ Below w.heap.size w w' := by
 have hres : impl_check.f (vst l0 && !l1.any fun x => !vst x) (decide ((l1.length : Int) ≤ 8) && !l1.any fun x => !decide ((x.length : Int) = (l0.length : Int))) = some r := by rw [← h, ← List.all_eq_not_any_not, ← List.all_eq_not_any_not]; rfl
 clear h
 have ht := vst_is l0
 have eg1 : ∀ args w, (callFunc 105 args).run Try.prog w = .ok (.enter 105 args) w := Go.Proofs.Ytfajacoagaamlaa.Hand.enters Try.func105 (by kernel_rfl) rfl
 have eg2 : ∀ args w, (callFunc 106 args).run Try.prog w = .ok (.enter 106 args) w := Go.Proofs.Ytfajacoagaamlaa.Hand.enters Try.func106 (by kernel_rfl) rfl
 have hb : Below w.heap.size w (w.alloc (.cells #[.slice A0 l0.length c0] 22)) := (Below.refl _ w).alloc (Nat.le_refl _) _
 have hcell : (w.alloc (.cells #[.slice A0 l0.length c0] 22)).cell? ⟨w.heap.size, 0, none⟩ = some (.slice A0 l0.length c0) := by go_simp
 have hsz : (w.alloc (.cells #[.slice A0 l0.length c0] 22)).heap.size = w.heap.size + 1 := by simp
 generalize hwa : w.alloc (.cells #[.slice A0 l0.length c0] 22) = wa at hb hcell hsz
 have hcon1 : ∀ w1, Below wa.heap.size wa w1 → Calls Try.prog 107 #[.slice A1 l1.length c1, .func (.func 105) #[] #[]] w1 fun e w' => e = .returned (.bool (l1.any fun x => !vst x)) ∧ Below w1.heap.size w1 w' := fun w1 hw1 =>
  rows_ContainsFunc (fun x => !vst x) 105 #[] eg1 A1 c1 l1 w1 (bl (bl hr1 hb) hw1)
   (fun x A c W _ hle hin hW => (impl_copiesCode_1.calls A c x (!vst x) W hin hle (vst_lit x)).mono fun e w' hh => ⟨hh.1, hW.trans (hh.2.mono hW.size)⟩)
 have hcon2 : ∀ w1, Below wa.heap.size wa w1 → Calls Try.prog 107 #[.slice A1 l1.length c1, .func (.func 106) #[] #[.pointer (some ⟨w.heap.size, 0, none⟩)]] w1 fun e w' => e = .returned (.bool (l1.any fun x => !decide ((x.length : Int) = (l0.length : Int)))) ∧ Below w1.heap.size w1 w' := fun w1 hw1 =>
  rows_ContainsFunc (fun x => !decide ((x.length : Int) = (l0.length : Int))) 106 #[.pointer (some ⟨w.heap.size, 0, none⟩)] eg2 A1 c1 l1 w1 (bl (bl hr1 hb) hw1)
   (fun x A c W _ hle hin hW => (other_lit A x.length c A0 l0.length c0 w.heap.size W ((hW.cell (p := ⟨w.heap.size, 0, none⟩) (by show w.heap.size < w1.heap.size; have h1 := hw1.size; omega)).trans ((hw1.cell (p := ⟨w.heap.size, 0, none⟩) (by show w.heap.size < wa.heap.size; omega)).trans hcell))).mono fun e w' hh => ⟨hh.1, hW.trans (hh.2.mono hW.size)⟩)
 have hfin : ∀ w1, Below wa.heap.size wa w1 → Below w.heap.size w w1 := fun w1 h1 => hb.trans (h1.mono (by omega))
 have HRA := aa (bl hr0 hb)
 subst hwa
 generalize (l1.any fun x => !vst x) = b1 at hcon1 hres
 generalize (l1.any fun x => !decide ((x.length : Int) = (l0.length : Int))) = b2 at hcon2 hres
 generalize vst l0 = t at ht hres
 have HT := aa ht
 have HC0 := aa hc0
 have HCON1 := aa hcon1
 have HCON2 := aa hcon2
 have HFIN := aa hfin
 have HW := aa (Below.refl (w.alloc (.cells #[.slice A0 l0.length c0] 22)).heap.size (w.alloc (.cells #[.slice A0 l0.length c0] 22)))
 clear ht hr0 hc0 hb hcon1 hcon2 hfin hcell hsz hr1 eg1 eg2
 by_cases hle : (l1.length : Int) ≤ 8
 ·rw [decide_eq_true hle, Bool.true_and] at hres
  have hd := decide_eq_true hle
  cases t <;>
  ·have HCK := aa hres
   clear hres
   go_enter Try.func76, Try.ntmps76
   go_wp2_with (first | (go_at_call 17; refine (impl_ValidStates.calls _ _ l0 _ _ HRA.out HC0.out HT.out).mono ?_; rintro e w1 ⟨rfl, hb1⟩; have n0_ := aa (HW.out.trans (hb1.mono HW.out.size)); clear HW hb1; have HW := n0_; clear n0_) | (go_at_call 107; (with_reducible refine (HCON1.out _ HW.out).mono ?_); rintro e w2 ⟨rfl, hb2⟩; have n0_ := aa (HW.out.trans (hb2.mono HW.out.size)); clear HW hb2; have HW := n0_; clear n0_) | (go_at_call 107; (with_reducible refine (HCON2.out _ HW.out).mono ?_); rintro e w3 ⟨rfl, hb3⟩; have n0_ := aa (HW.out.trans (hb3.mono HW.out.size)); clear HW hb3; have HW := n0_; clear n0_) | (go_at_call 101; refine (impl_check.calls _ _ r _ HCK.out).mono ?_; rintro e w4 ⟨rfl, ⟨nd, rfl⟩⟩))
   go_ret
   exact ⟨rfl, ae (HFIN.out _ HW.out) _⟩
 ·rw [decide_eq_false hle, Bool.false_and] at hres
  have hd := decide_eq_false hle
  cases t <;>
  ·have HCK := aa hres
   clear hres
   go_enter Try.func76, Try.ntmps76
   go_wp2_with (first | (go_at_call 17; refine (impl_ValidStates.calls _ _ l0 _ _ HRA.out HC0.out HT.out).mono ?_; rintro e w1 ⟨rfl, hb1⟩; have n0_ := aa (HW.out.trans (hb1.mono HW.out.size)); clear HW hb1; have HW := n0_; clear n0_) | (go_at_call 107; (with_reducible refine (HCON1.out _ HW.out).mono ?_); rintro e w2 ⟨rfl, hb2⟩; have n0_ := aa (HW.out.trans (hb2.mono HW.out.size)); clear HW hb2; have HW := n0_; clear n0_) | (go_at_call 101; refine (impl_check.calls _ _ r _ HCK.out).mono ?_; rintro e w4 ⟨rfl, ⟨nd, rfl⟩⟩))
   go_ret
   exact ⟨rfl, ae (HFIN.out _ HW.out) _⟩


/-! ### impl_isCopied: function 77 -/
set_option maxHeartbeats 4000000 in
set_option maxRecDepth 100000 in
theorem copied_lit (x : List Int) (A : Option Addr) (c : Nat) (a : Int) (B : Nat) (W : World) (h0 : 0 ≤ a) (h1 : a < x.length) (hin : (Kd.int .i64).C W A x.length x) (hc : W.cell? ⟨B, 0, none⟩ = some (.int .i64 a)) :
  Calls Try.prog 108 #[.slice A x.length c, .pointer (some ⟨B, 0, none⟩)] W fun e w' => e = .returned (.bool (decide (rd x a = 0))) ∧ Below W.heap.size W w' := by
 obtain ⟨ad, hA, hx⟩ := bj hin a h0 h1
 cases hA
 have p0 := eq_true h0
 have p1 := eq_true h1
 clear hin
 go_enter Try.func108, Try.ntmps108
 go_wp2
 go_ret
 exact ⟨by first | rfl | (simp; done), by repeat (first | exact Below.refl _ _ | (with_reducible first | apply ae | apply ag | apply ah))⟩
def impl_isCopied.f (l0 : List (List Int)) (a1 : Int) : Option (Bool) := if 0 ≤ a1 ∧ (l0.all fun x => decide (a1 < (x.length : Int))) = true then some (l0.any fun x => decide (rd x a1 = 0)) else none
set_option maxHeartbeats 4000000 in
set_option maxRecDepth 100000 in
theorem impl_isCopied.calls (A0 : Option Addr) (c0 : Nat) (l0 : List (List Int)) (a1 : Int) (r : Bool) (w : World) (hr0 : Kd.C (Kd.slice 2 (Kd.int .i64)) w A0 l0.length l0) (hc0 : l0.length ≤ c0) (h : impl_isCopied.f l0 a1 = some r) :
  Calls Try.prog 77 #[.slice A0 l0.length c0, .int .i64 a1] w fun e w' => e = .returned (.bool r) ∧ Below w.heap.size w w' := by
 unfold impl_isCopied.f at h
 by_cases hp : 0 ≤ a1 ∧ (l0.all fun x => decide (a1 < (x.length : Int))) = true
 case neg => rw [if_neg hp] at h; cases h
 rw [if_pos hp] at h
 have hres := Option.some.inj h
 clear h
 have eg : ∀ args w, (callFunc 108 args).run Try.prog w = .ok (.enter 108 args) w := Go.Proofs.Ytfajacoagaamlaa.Hand.enters Try.func108 (by kernel_rfl) rfl
 have hb : Below w.heap.size w (w.alloc (.cells #[.int .i64 a1] 3)) := (Below.refl _ w).alloc (Nat.le_refl _) _
 have hcell : (w.alloc (.cells #[.int .i64 a1] 3)).cell? ⟨w.heap.size, 0, none⟩ = some (.int .i64 a1) := by go_simp
 have hsz : (w.alloc (.cells #[.int .i64 a1] 3)).heap.size = w.heap.size + 1 := by simp
 generalize hwa : w.alloc (.cells #[.int .i64 a1] 3) = wa at hb hcell hsz
 have hcon : Calls Try.prog 107 #[.slice A0 l0.length c0, .func (.func 108) #[] #[.pointer (some ⟨w.heap.size, 0, none⟩)]] wa fun e w' => e = .returned (.bool (l0.any fun x => decide (rd x a1 = 0))) ∧ Below wa.heap.size wa w' :=
  rows_ContainsFunc (fun x => decide (rd x a1 = 0)) 108 #[.pointer (some ⟨w.heap.size, 0, none⟩)] eg A0 c0 l0 wa (bl hr0 hb)
   (fun x A c W hx hle hin hW => (copied_lit x A c a1 w.heap.size W hp.1 (by simpa using List.all_eq_true.1 hp.2 x hx) hin ((hW.cell (p := ⟨w.heap.size, 0, none⟩) (by show w.heap.size < wa.heap.size; omega)).trans hcell)).mono fun e w' hh => ⟨hh.1, hW.trans (hh.2.mono hW.size)⟩)
 have HFIN := aa (fun w1 (h1 : Below wa.heap.size wa w1) => hb.trans (h1.mono (by omega)))
 subst hwa
 rw [hres] at hcon
 have HCON := aa hcon
 clear hcon hres hr0 hb hcell hsz eg hp
 go_enter Try.func77, Try.ntmps77
 go_wp2_with (go_at_call 107; refine HCON.out.mono ?_; rintro e w2 ⟨rfl, hb2⟩; have HB2 := aa hb2; clear hb2)
 go_ret
 exact ⟨rfl, HFIN.out _ HB2.out⟩


end Go.Proofs.Ytfajacoagaamlaa.QFnRepairs
