/- Walks of the Go functions that the law FnTopOfAll reaches: written by a program of this session. -/
import Derived.Test.YtmgljagkmaoopaaGreatQFnTopOfAllx0
namespace Go.Proofs.YtmgljagkmaoopaaGreat.QFnTopOfAll
open Go.RowKit Go.Proofs.YtmgljagkmaoopaaGreatW.PrintWords Go.Proofs.YtmgljagkmaoopaaGreatW.PrintLast Go.Proofs.YtmgljagkmaoopaaGreatW.PrintMore
attribute [local go_sem] max2_int min2_int max_two min_two max_three min_three max_four min_four
open Go.Proofs.YtmgljagkmaoopaaGreatW.PrintWords.Aside0 renaming mk → aa
set_option linter.unusedVariables false
set_option linter.unusedSimpArgs false
def spec_l09Apart.l0 : Nat → List (S82) → Int → Int → Option (Bool)
 | 0, _, _, _ => none
 | k + 1, x0, x1, x5 => if x5 < (x0.length : Int) then (if 0 ≤ x5 then (if 0 ≤ (IntKind.u64.wrap ((rd_T82 x0 x5).f0)) then (if (Go.bits .and .i64 (shr .i64 x1 (IntKind.u64.wrap ((rd_T82 x0 x5).f0))) 1) = 1 then (if 0 ≤ (IntKind.u64.wrap ((rd_T82 x0 x5).f1)) then (if (Go.bits .and .i64 (shr .i64 x1 (IntKind.u64.wrap ((rd_T82 x0 x5).f1))) 1) = 1 then (some false) else (spec_l09Apart.l0 k x0 x1 (wrap64 (x5 + 1)))) else (none)) else (spec_l09Apart.l0 k x0 x1 (wrap64 (x5 + 1)))) else (none)) else (none)) else (some true)
def spec_l09Apart.f (k : Nat) (l0 : List (S82)) (a1 : Int) : Option (Bool) := spec_l09Apart.l0 k l0 a1 0
theorem spec_l09Apart.mono_l : ∀ k, (∀ y0 y1 y2, LeO (spec_l09Apart.l0 k y0 y1 y2) (spec_l09Apart.l0 (k + 1) y0 y1 y2))
 | 0 => fun _ _ _ r h => by simp [spec_l09Apart.l0] at h
 | k + 1 => by
  have ih0 := spec_l09Apart.mono_l k
  ·intro y0 y1 y2; unfold spec_l09Apart.l0
   repeat' first
   | (with_reducible exact ih0 _ _ _)
   | (with_reducible exact LeO.refl _)
   | (with_reducible exact LeO.none _)
   | (with_reducible refine LeO.ite ?_ ?_)
   | (with_reducible refine LeO.bind ?_ (fun _ => ?_))
   | exact ih0 _ _ _
   | exact LeO.none _
   | refine LeO.ite ?_ ?_
   | refine LeO.bind ?_ (fun _ => ?_)
theorem spec_l09Apart.mono : ∀ a0 a1 k, LeO (spec_l09Apart.f k a0 a1) (spec_l09Apart.f (k + 1) a0 a1) := by
 intro a0 a1 k; have ih0 := spec_l09Apart.mono_l k; unfold spec_l09Apart.f
 repeat' first
   | (with_reducible exact ih0 _ _ _)
   | (with_reducible exact LeO.refl _)
   | (with_reducible exact LeO.none _)
   | (with_reducible refine LeO.ite ?_ ?_)
   | (with_reducible refine LeO.bind ?_ (fun _ => ?_))
   | exact ih0 _ _ _
   | exact LeO.none _
   | refine LeO.ite ?_ ?_
   | refine LeO.bind ?_ (fun _ => ?_)
set_option maxHeartbeats 8000000 in
set_option maxRecDepth 100000 in
theorem spec_l09Apart.calls (k : Nat) (A0 : Option Addr) (c0 : Nat) (l0 : List (S82)) (a1 : Int) (r : Bool) (w : World) (hr0 : Kd.C k82 w A0 l0.length l0) (hc0 : l0.length ≤ c0) (h : spec_l09Apart.f k l0 a1 = some r) :
  Calls Tryz.prog 77 #[.slice A0 l0.length c0, .int .i64 a1] w fun e w' => e = .returned (.bool r) ∧ Drawn0 w w' := by
 have HR0 := aa hr0; have HC0 := aa hc0; clear hr0 hc0; have H : (spec_l09Apart.l0 k l0 a1 0) = some r := h; clear h; have H' := aa H; clear H; go_enter Tryz.func77, Tryz.ntmps77; go_wp2
 go_loopg [5] k (fun kq v5 w' => ∃ (x5_1 : Int), v5 = .int .i64 x5_1 ∧ Aside0 (spec_l09Apart.l0 kq l0 a1 x5_1 = some r) ∧ Aside0 (kq ≤ k) ∧ Drawn0 w w')
 case atStart => exact ⟨(0), (by first | rfl | (simp; done) | (simp [*]; done)), H', ⟨Nat.le_refl _⟩, by repeat (first | exact Drawn0.refl _ | apply Drawn0.step)⟩
 case round =>
  clear H'; (try clear p2); obtain ⟨x5_1, rfl, HA, HK1, ⟨m1, rfl⟩⟩ := hrel
  cases gk with
  | zero => exact absurd HA.out (by simp [spec_l09Apart.l0])
  | succ k1 =>
   have H := HA.out; clear HA; simp only [spec_l09Apart.l0] at H; by_cases c3 : x5_1 < (l0.length : Int)
   ·rw [if_pos c3] at H; have c3b0 : decide (x5_1 < (l0.length : Int)) = true := decide_eq_true c3; clear c3; by_cases c4 : 0 ≤ x5_1
    ·rw [if_pos c4] at H; have c4b0 : decide (0 ≤ x5_1) = true := decide_eq_true c4; clear c4; obtain ⟨ji5, hji5⟩ : ∃ j_ : Int, (IntKind.u64.wrap ((rd_T82 l0 x5_1).f0)) = j_ := ⟨_, rfl⟩; (replace H : (if 0 ≤ (ji5) then (if (Go.bits .and .i64 (shr .i64 a1 (ji5)) 1) = 1 then (if 0 ≤ (IntKind.u64.wrap ((rd_T82 l0 x5_1).f1)) then (if (Go.bits .and .i64 (shr .i64 a1 (IntKind.u64.wrap ((rd_T82 l0 x5_1).f1))) 1) = 1 then (some false) else (spec_l09Apart.l0 k1 l0 a1 (wrap64 (x5_1 + 1)))) else (none)) else (spec_l09Apart.l0 k1 l0 a1 (wrap64 (x5_1 + 1)))) else (none)) = some r := by first | (rw [hji5] at H; exact H) | (simp only [hji5] at H ⊢; exact H)); by_cases c6 : 0 ≤ (ji5)
     ·rw [if_pos c6] at H; have c6b0 := eq_true c6; have c6b1 : decide (0 ≤ (ji5)) = true := decide_eq_true c6; clear c6; obtain ⟨ji7, hji7⟩ : ∃ j_ : Int, (shr .i64 a1 (ji5)) = j_ := ⟨_, rfl⟩; (replace H : (if (Go.bits .and .i64 (ji7) 1) = 1 then (if 0 ≤ (IntKind.u64.wrap ((rd_T82 l0 x5_1).f1)) then (if (Go.bits .and .i64 (shr .i64 a1 (IntKind.u64.wrap ((rd_T82 l0 x5_1).f1))) 1) = 1 then (some false) else (spec_l09Apart.l0 k1 l0 a1 (wrap64 (x5_1 + 1)))) else (none)) else (spec_l09Apart.l0 k1 l0 a1 (wrap64 (x5_1 + 1)))) = some r := by first | (rw [hji7] at H; exact H) | (simp only [hji7] at H ⊢; exact H)); have hji7_ : (a1 / 2 ^ min (ji5).toNat 64) = ji7 := hji7; have hji7z : (ji5) ≤ 64 → (a1 / 2 ^ (ji5).toNat) = ji7 := shr_small hji7; by_cases c8 : (Go.bits .and .i64 (ji7) 1) = 1
      ·rw [if_pos c8] at H; have c8b0 : ((Go.bits .and .i64 (ji7) 1) == 1) = true := beq_iff_eq.mpr c8; have c8b1 : ((Go.bits .and .i64 (ji7) 1) != 1) = false := bne_eq_false_iff_eq.mpr c8; clear c8; obtain ⟨ji9, hji9⟩ : ∃ j_ : Int, (IntKind.u64.wrap ((rd_T82 l0 x5_1).f1)) = j_ := ⟨_, rfl⟩; (replace H : (if 0 ≤ (ji9) then (if (Go.bits .and .i64 (shr .i64 a1 (ji9)) 1) = 1 then (some false) else (spec_l09Apart.l0 k1 l0 a1 (wrap64 (x5_1 + 1)))) else (none)) = some r := by first | (rw [hji9] at H; exact H) | (simp only [hji9] at H ⊢; exact H)); by_cases c10 : 0 ≤ (ji9)
       ·rw [if_pos c10] at H; have c10b0 := eq_true c10; have c10b1 : decide (0 ≤ (ji9)) = true := decide_eq_true c10; clear c10; obtain ⟨ji11, hji11⟩ : ∃ j_ : Int, (shr .i64 a1 (ji9)) = j_ := ⟨_, rfl⟩; (replace H : (if (Go.bits .and .i64 (ji11) 1) = 1 then (some false) else (spec_l09Apart.l0 k1 l0 a1 (wrap64 (x5_1 + 1)))) = some r := by first | (rw [hji11] at H; exact H) | (simp only [hji11] at H ⊢; exact H)); have hji11_ : (a1 / 2 ^ min (ji9).toNat 64) = ji11 := hji11; have hji11z : (ji9) ≤ 64 → (a1 / 2 ^ (ji9).toNat) = ji11 := shr_small hji11; by_cases c12 : (Go.bits .and .i64 (ji11) 1) = 1
        ·rw [if_pos c12] at H; have c12b0 : ((Go.bits .and .i64 (ji11) 1) == 1) = true := beq_iff_eq.mpr c12; have c12b1 : ((Go.bits .and .i64 (ji11) 1) != 1) = false := bne_eq_false_iff_eq.mpr c12; clear c12; obtain rfl := Option.some.inj H; have p252 : 0 ≤ (x5_1 : Int) := of_decide_eq_true (by first | (with_reducible assumption) | assumption); have q252 : x5_1 < (l0.length : Int) := of_decide_eq_true (by first | (with_reducible assumption) | assumption); obtain ⟨ad252, e252, hx252_0, hx252_1⟩ := at_T82 HR0.out x5_1 p252 q252
         cases e252
         replace p252 := eq_true p252; replace q252 := eq_true q252; have p253 : 0 ≤ (x5_1 : Int) := of_decide_eq_true (by first | (with_reducible assumption) | assumption); have q253 : x5_1 < (l0.length : Int) := of_decide_eq_true (by first | (with_reducible assumption) | assumption); obtain ⟨ad253, e253, hx253_0, hx253_1⟩ := at_T82 HR0.out x5_1 p253 q253; obtain rfl : ad252 = ad253 := (by injection e253); replace p253 := eq_true p253; replace q253 := eq_true q253; go_wp2; go_ret; exact ⟨by first | rfl | (simp; done) | (simp only [← hji5, ← hji7, ← hji9, ← hji11] <;> (first | rfl | simp)) | (simp [*]; done), by repeat (first | exact Drawn0.refl _ | apply Drawn0.step)⟩
        ·rw [if_neg c12] at H; have c12b0 : ((Go.bits .and .i64 (ji11) 1) == 1) = false := beq_eq_false_iff_ne.mpr c12; have c12b1 : ((Go.bits .and .i64 (ji11) 1) != 1) = true := bne_iff_ne.mpr c12; have H' := aa H; clear H; have p252 : 0 ≤ (x5_1 : Int) := of_decide_eq_true (by first | (with_reducible assumption) | assumption); have q252 : x5_1 < (l0.length : Int) := of_decide_eq_true (by first | (with_reducible assumption) | assumption); obtain ⟨ad252, e252, hx252_0, hx252_1⟩ := at_T82 HR0.out x5_1 p252 q252
         cases e252
         replace p252 := eq_true p252; replace q252 := eq_true q252; have p253 : 0 ≤ (x5_1 : Int) := of_decide_eq_true (by first | (with_reducible assumption) | assumption); have q253 : x5_1 < (l0.length : Int) := of_decide_eq_true (by first | (with_reducible assumption) | assumption); obtain ⟨ad253, e253, hx253_0, hx253_1⟩ := at_T82 HR0.out x5_1 p253 q253; obtain rfl : ad252 = ad253 := (by injection e253); replace p253 := eq_true p253; replace q253 := eq_true q253; go_wp2; go_roundg k1
         case measure => have := HK1.out; omega
         case rel => exact ⟨(wrap64 (x5_1 + 1)), (by first | rfl | (simp; done) | (simp [*]; done)), H', ⟨by have := HK1.out; omega⟩, by repeat (first | exact Drawn0.refl _ | apply Drawn0.step)⟩
       ·rw [if_neg c10] at H; exact absurd H (by simp)
      ·rw [if_neg c8] at H; have c8b0 : ((Go.bits .and .i64 (ji7) 1) == 1) = false := beq_eq_false_iff_ne.mpr c8; have c8b1 : ((Go.bits .and .i64 (ji7) 1) != 1) = true := bne_iff_ne.mpr c8; have H' := aa H; clear H; have p252 : 0 ≤ (x5_1 : Int) := of_decide_eq_true (by first | (with_reducible assumption) | assumption); have q252 : x5_1 < (l0.length : Int) := of_decide_eq_true (by first | (with_reducible assumption) | assumption); obtain ⟨ad252, e252, hx252_0, hx252_1⟩ := at_T82 HR0.out x5_1 p252 q252
       cases e252
       replace p252 := eq_true p252; replace q252 := eq_true q252; go_wp2; go_roundg k1
       case measure => have := HK1.out; omega
       case rel => exact ⟨(wrap64 (x5_1 + 1)), (by first | rfl | (simp; done) | (simp [*]; done)), H', ⟨by have := HK1.out; omega⟩, by repeat (first | exact Drawn0.refl _ | apply Drawn0.step)⟩
     ·rw [if_neg c6] at H; exact absurd H (by simp)
    ·rw [if_neg c4] at H; exact absurd H (by simp)
   ·rw [if_neg c3] at H; have c3b0 : decide (x5_1 < (l0.length : Int)) = false := decide_eq_false c3; clear c3; obtain rfl := Option.some.inj H; go_wp2; go_ret; exact ⟨by first | rfl | (simp; done) | (simp [*]; done), by repeat (first | exact Drawn0.refl _ | apply Drawn0.step)⟩
end Go.Proofs.YtmgljagkmaoopaaGreat.QFnTopOfAll
