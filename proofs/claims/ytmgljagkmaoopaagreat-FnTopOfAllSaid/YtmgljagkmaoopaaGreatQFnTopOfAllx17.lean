/- Walks of the Go functions that the law FnTopOfAll reaches: written by a program of this session. -/
import Derived.Test.YtmgljagkmaoopaaGreatQFnTopOfAllx0
import Derived.Test.YtmgljagkmaoopaaGreatQFnTopOfAllx6
namespace Go.Proofs.YtmgljagkmaoopaaGreat.QFnTopOfAll
open Go.RowKit Go.Proofs.YtmgljagkmaoopaaGreatW.PrintWords Go.Proofs.YtmgljagkmaoopaaGreatW.PrintLast Go.Proofs.YtmgljagkmaoopaaGreatW.PrintMore
attribute [local go_sem] max2_int min2_int max_two min_two max_three min_three max_four min_four
open Go.Proofs.YtmgljagkmaoopaaGreatW.PrintWords renaming below_alloc → ae, below_drew1 → ac, below_set → ak, below_size → al, below_step → af, gate_dst → az, pw_below_drewN → ab
open Go.Proofs.YtmgljagkmaoopaaGreatW.PrintWords.Aside0 renaming mk → aa
open Go.Proofs.YtmgljagkmaoopaaGreatW.PrintWords.Kd renaming C_alloc → ar, C_below → ay, C_drew → av, C_drewN → au, R_alloc → ah, R_below → be, R_drew → ai, R_drewN → ag, R_lower → bd, R_mono → bc, R_reads' → aw, at_int → ax
open Option renaming bind_eq_some_iff → bf
open List renaming length_drop → b0, length_take → b2, map_cons → b4, map_nil → b5, map_toArray → b3, setIfInBounds_toArray → a7, set_cons_succ → a9, set_cons_zero → a8
open Option renaming bind_some → b6
set_option linter.unusedVariables false
set_option linter.unusedSimpArgs false
mutual
def spec_l07Fewest.l0 : Nat → List (S71) → Int → Int → List Int → List Int → Int → Option (List Int)
 | 0, _, _, _, _, _, _ => none
 | k + 1, x0, x1, x5, x6, x7, x8 => if x8 ≥ 0 then (if 0 ≤ x8 then (if x8 < (x6.length : Int) then (spec_l07Fewest.l1 k x0 x1 x5 (x6.set (x8 : Int).toNat x5) x7 x8 (wrap64 (x8 + 1))) else (none)) else (none)) else (spec_l07Fewest.l2 k x5 x7 (([0] : List Int)) 0)
def spec_l07Fewest.l1 : Nat → List (S71) → Int → Int → List Int → List Int → Int → Int → Option (List Int)
 | 0, _, _, _, _, _, _, _ => none
 | k + 1, x0, x1, x5, x6, x7, x8, x9 => if x9 < x5 then (if 0 ≤ x9 then (if x9 < (x6.length : Int) then (if 0 ≤ x8 then (if x8 < (x6.length : Int) then (if (wrap64 ((rd x6 x9) + 1)) < (rd x6 x8) then ((spec_l07Within.f k x0 x8 x9 x1).bind fun t347 => (if t347 = true then (if x8 < (x7.length : Int) then (spec_l07Fewest.l1 k x0 x1 x5 (x6.set (x8 : Int).toNat (wrap64 ((rd x6 x9) + 1))) (x7.set (x8 : Int).toNat x9) x8 (wrap64 (x9 + 1))) else (none)) else (spec_l07Fewest.l1 k x0 x1 x5 x6 x7 x8 (wrap64 (x9 + 1))))) else (spec_l07Fewest.l1 k x0 x1 x5 x6 x7 x8 (wrap64 (x9 + 1)))) else (none)) else (none)) else (none)) else (none)) else (spec_l07Fewest.l0 k x0 x1 x5 x6 x7 (wrap64 (x8 - 1)))
def spec_l07Fewest.l2 : Nat → Int → List Int → List Int → Int → Option (List Int)
 | 0, _, _, _, _ => none
 | k + 1, x5, x7, x10, x11 => if x11 < (wrap64 (x5 - 1)) then (if 0 ≤ x11 then (if x11 < (x7.length : Int) then (if x10.length < 17592186044416 then (spec_l07Fewest.l2 k x5 x7 (x10 ++ [rd x7 x11]) (rd x7 x11)) else (none)) else (none)) else (none)) else (some x10)
end
def spec_l07Fewest.f (k : Nat) (l0 : List (S71)) (a1 : Int) : Option (List Int) := if 0 ≤ (l0.length : Int) then (if ((l0.length : Int) : Int).toNat ≤ 35184372088832 then (spec_l07Fewest.l0 k l0 a1 (l0.length : Int) (List.replicate ((l0.length : Int) : Int).toNat 0) (List.replicate ((l0.length : Int) : Int).toNat 0) (wrap64 ((l0.length : Int) - 2))) else (none)) else (none)
theorem spec_l07Fewest.mono_l : ∀ k, (∀ y0 y1 y2 y3 y4 y5, LeO (spec_l07Fewest.l0 k y0 y1 y2 y3 y4 y5) (spec_l07Fewest.l0 (k + 1) y0 y1 y2 y3 y4 y5)) ∧ (∀ y0 y1 y2 y3 y4 y5 y6, LeO (spec_l07Fewest.l1 k y0 y1 y2 y3 y4 y5 y6) (spec_l07Fewest.l1 (k + 1) y0 y1 y2 y3 y4 y5 y6)) ∧ (∀ y0 y1 y2 y3, LeO (spec_l07Fewest.l2 k y0 y1 y2 y3) (spec_l07Fewest.l2 (k + 1) y0 y1 y2 y3))
 | 0 => ⟨fun _ _ _ _ _ _ r h => by simp [spec_l07Fewest.l0] at h, fun _ _ _ _ _ _ _ r h => by simp [spec_l07Fewest.l1] at h, fun _ _ _ _ r h => by simp [spec_l07Fewest.l2] at h⟩
 | k + 1 => by
  obtain ⟨ih0, ih1, ih2⟩ := spec_l07Fewest.mono_l k; refine ⟨?_, ?_, ?_⟩; (all_goals intros); (all_goals first | unfold spec_l07Fewest.l0 | unfold spec_l07Fewest.l1 | unfold spec_l07Fewest.l2)
  all_goals repeat' first
   | (with_reducible exact ih0 _ _ _ _ _ _)
   | (with_reducible exact ih1 _ _ _ _ _ _ _)
   | (with_reducible exact ih2 _ _ _ _)
   | (with_reducible exact spec_l07Within.mono _ _ _ _ _)
   | (with_reducible exact LeO.refl _)
   | (with_reducible exact LeO.none _)
   | (with_reducible refine LeO.ite ?_ ?_)
   | (with_reducible refine LeO.bind ?_ (fun _ => ?_))
   | exact ih0 _ _ _ _ _ _
   | exact ih1 _ _ _ _ _ _ _
   | exact ih2 _ _ _ _
   | exact spec_l07Within.mono _ _ _ _ _
   | exact LeO.none _
   | refine LeO.ite ?_ ?_
   | refine LeO.bind ?_ (fun _ => ?_)
theorem spec_l07Fewest.mono : ∀ a0 a1 k, LeO (spec_l07Fewest.f k a0 a1) (spec_l07Fewest.f (k + 1) a0 a1) := by
 intro a0 a1 k; obtain ⟨ih0, ih1, ih2⟩ := spec_l07Fewest.mono_l k; unfold spec_l07Fewest.f
 repeat' first
   | (with_reducible exact ih0 _ _ _ _ _ _)
   | (with_reducible exact ih1 _ _ _ _ _ _ _)
   | (with_reducible exact ih2 _ _ _ _)
   | (with_reducible exact spec_l07Within.mono _ _ _ _ _)
   | (with_reducible exact LeO.refl _)
   | (with_reducible exact LeO.none _)
   | (with_reducible refine LeO.ite ?_ ?_)
   | (with_reducible refine LeO.bind ?_ (fun _ => ?_))
   | exact ih0 _ _ _ _ _ _
   | exact ih1 _ _ _ _ _ _ _
   | exact ih2 _ _ _ _
   | exact spec_l07Within.mono _ _ _ _ _
   | exact LeO.none _
   | refine LeO.ite ?_ ?_
   | refine LeO.bind ?_ (fun _ => ?_)
def spec_l07Fewest.T11 : Bool × List (List Nat × List Nat) := (true, [([], []), ([], []), ([0, 1], [0, 1]), ([2], [2]), ([3], [3]), ([], []), ([], []), ([5, 6], [5, 6]), ([7], [7]), ([4, 8], [4, 8]), ([9], [9]), ([10], [10]), ([10], [10]), ([10], [10]), ([10], [10]), ([11, 12, 13, 14, 10, 10], [10, 11, 12, 13, 14]), ([10, 15], [10, 15])])
def spec_l07Fewest.B11 : List Nat := [0, 0, 3, 7, 15, 0, 0, 96, 224, 511, 1023, 2047, 2047, 2047, 2047, 32767, 65535]
theorem spec_l07Fewest.tab11 : rtab .any (opsOf Tryz.f56 11) = spec_l07Fewest.T11 := by kernel_rfl
theorem spec_l07Fewest.bits11 : waitsOk spec_l07Fewest.T11.2 spec_l07Fewest.B11 = true := by kernel_rfl
set_option maxHeartbeats 8000000 in
set_option maxRecDepth 100000 in
theorem spec_l07Fewest.calls (k : Nat) (A0 : Option Addr) (c0 : Nat) (l0 : List (S71)) (a1 : Int) (r : List Int) (w : World) (hr0 : Kd.C k71 w A0 l0.length l0) (hc0 : l0.length ≤ c0) (h : spec_l07Fewest.f k l0 a1 = some r) :
  Calls Tryz.prog 56 #[.slice A0 l0.length c0, .int .i64 a1] w fun e w' => ∃ v0_ : Value, e = .returned (v0_) ∧ Kd.R (Kd.int .i64) 2 w' w.heap.size (fun _ => True) v0_ r ∧ Below w.heap.size w w' := by
 have HR0 := aa hr0; have HC0 := aa hc0; clear hr0 hc0; have HB := aa (Below.refl w.heap.size w); have H : (if 0 ≤ (l0.length : Int) then (if ((l0.length : Int) : Int).toNat ≤ 35184372088832 then (spec_l07Fewest.l0 k l0 a1 (l0.length : Int) (List.replicate ((l0.length : Int) : Int).toNat 0) (List.replicate ((l0.length : Int) : Int).toNat 0) (wrap64 ((l0.length : Int) - 2))) else (none)) else (none)) = some r := h; clear h; by_cases c3 : 0 ≤ (l0.length : Int)
 ·rw [if_pos c3] at H; have c3b0 := eq_true c3; have c3b1 : decide (0 ≤ (l0.length : Int)) = true := decide_eq_true c3; clear c3; by_cases c4 : ((l0.length : Int) : Int).toNat ≤ 35184372088832
  ·rw [if_pos c4] at H; have c4b0 := eq_true c4; have c4b1 : decide (((l0.length : Int) : Int).toNat ≤ 35184372088832) = true := decide_eq_true c4; clear c4; obtain ⟨y338, hy338⟩ : ∃ y_ : List Int, y_ = (List.replicate ((l0.length : Int) : Int).toNat 0) := ⟨_, rfl⟩; (replace H : (spec_l07Fewest.l0 k l0 a1 (l0.length : Int) y338 (List.replicate ((l0.length : Int) : Int).toNat 0) (wrap64 ((l0.length : Int) - 2))) = some r := by first | (rw [hy338]; with_reducible exact H) | (have H2_ := (b6 _ _).symm.trans H; rw [hy338]; with_reducible exact H2_) | (have H2_ := (b6 _ _).symm.trans H; with_reducible exact H2_) | with_reducible exact H | (rw [hy338]; exact H) | exact H); have Ny338 := aa hy338; clear hy338; obtain ⟨y341, hy341⟩ : ∃ y_ : List Int, y_ = (List.replicate ((l0.length : Int) : Int).toNat 0) := ⟨_, rfl⟩; (replace H : (spec_l07Fewest.l0 k l0 a1 (l0.length : Int) y338 y341 (wrap64 ((l0.length : Int) - 2))) = some r := by first | (rw [hy341]; with_reducible exact H) | (have H2_ := (b6 _ _).symm.trans H; rw [hy341]; with_reducible exact H2_) | (have H2_ := (b6 _ _).symm.trans H; with_reducible exact H2_) | with_reducible exact H | (rw [hy341]; exact H) | exact H); have Ny341 := aa hy341; clear hy341; have H' := aa H; clear H; go_enter Tryz.func56, Tryz.ntmps56
   go_wp2_with (first | ((with_reducible refine az (N := 15) rfl ?_); refine Kd.R_make (Kd.int .i64) _ 2 rfl (N := 15) rfl 27 _ _ rfl (l0.length : Int) rfl rfl Tryz.underlying27 (.int .i64 0) 8 info2 rfl (by decide) (by omega) 0 (ok := fun _ => True) (okp := fun _ => True) rfl (fun _ hk => hk) trivial (of_decide_eq_true (by first | (with_reducible assumption) | assumption)) (Nat.le_trans (Nat.mul_le_mul_right _ (of_decide_eq_true (by first | (with_reducible assumption) | assumption) : (l0.length : Int).toNat ≤ 35184372088832)) (by omega)) (Below.refl _ _) (Nat.le_refl _) ?_; intro v339 w5 ho6 hb hg_ hnew_; clear hg_ hnew_; (first | rw [← Ny338.out] at ho6 | (simp only [Int.reduceToNat] at ho6; rw [← Ny338.out] at ho6)); have n0_ := aa (bd ho6 (al (by repeat (first | (with_reducible first | exact HB.out | apply ae | apply ab | apply ac) | exact HB.out)))); have n1_ := aa (af (by repeat (first | (with_reducible first | exact HB.out | apply ae | apply ab | apply ac) | exact HB.out)) hb); clear HB; have HO340 := n0_; have HB := n1_; clear n0_ n1_; clear hb ho6) | ((with_reducible refine az (N := 17) rfl ?_); refine Kd.R_make (Kd.int .i64) _ 2 rfl (N := 17) rfl 27 _ _ rfl (l0.length : Int) rfl rfl Tryz.underlying27 (.int .i64 0) 8 info2 rfl (by decide) (by omega) 0 (ok := fun _ => True) (okp := fun _ => True) rfl (fun _ hk => hk) trivial (of_decide_eq_true (by first | (with_reducible assumption) | assumption)) (Nat.le_trans (Nat.mul_le_mul_right _ (of_decide_eq_true (by first | (with_reducible assumption) | assumption) : (l0.length : Int).toNat ≤ 35184372088832)) (by omega)) (Below.refl _ _) (Nat.le_refl _) ?_; intro v342 w7 ho8 hb hg_ hnew_; clear hg_ hnew_; (first | rw [← Ny341.out] at ho8 | (simp only [Int.reduceToNat] at ho8; rw [← Ny341.out] at ho8)); have n0_ := aa (Kd.R_elder' (by (with_reducible repeat (first | apply ah | apply ag | apply ai)); exact HO340.out) (Kd.R_base ho8) hb); have n1_ := aa (bd (Kd.R_new' ho8 (Kd.R_lt (by (with_reducible repeat (first | apply ah | apply ag | apply ai)); exact HO340.out))) (al (by repeat (first | (with_reducible first | exact HB.out | apply ae | apply ab | apply ac) | exact HB.out)))); have n2_ := aa (af (by repeat (first | (with_reducible first | exact HB.out | apply ae | apply ab | apply ac) | exact HB.out)) hb); clear HO340; clear HB; have HO340 := n0_; have HO343 := n1_; have HB := n2_; clear n0_ n1_ n2_; clear hb ho8))
   go_loopg [8] k (fun kq v8 w' => ∃ (x6_1 : List Int) (x7_1 : List Int) (x8_1 : Int), v8 = .int .i64 x8_1 ∧ Aside0 (spec_l07Fewest.l0 kq l0 a1 (l0.length : Int) x6_1 x7_1 x8_1 = some r) ∧ Aside0 (kq ≤ k) ∧ Aside0 (Kd.R (Kd.int .i64) 2 w' w.heap.size (fun k_ => some k_ ≠ (v342 : Value).ownBlock) v339 x6_1) ∧ Aside0 (Kd.R (Kd.int .i64) 2 w' w.heap.size (fun k_ => some k_ ≠ (v339 : Value).ownBlock) v342 x7_1) ∧ Aside0 (Below w.heap.size w w'))
   case atStart => exact ⟨(y338), (y341), (wrap64 ((l0.length : Int) - 2)), (by first | rfl | (simp; done) | (simp [*]; done)), H', ⟨Nat.le_refl _⟩, ⟨by (with_reducible repeat (first | apply ah | apply ag | apply ai)); exact bc HO340.out (fun _ hk => hk.2)⟩, ⟨by (with_reducible repeat (first | apply ah | apply ag | apply ai)); exact bc HO343.out (fun _ hk => hk.2)⟩, ⟨by repeat (first | (with_reducible first | exact HB.out | apply ae | apply ab | apply ac) | exact HB.out)⟩⟩
   case round =>
    clear H'; (try clear p2); (try clear c3); (try clear c3b0); (try clear c3b1); (try clear c4); (try clear c4b0); (try clear c4b1); (try clear c5); (try clear p6); obtain ⟨x6_1, x7_1, x8_1, rfl, HA, HK1, HO_6, HO_7, HB⟩ := hrel
    cases gk with
    | zero => exact absurd HA.out (by simp [spec_l07Fewest.l0])
    | succ k1 =>
     have H := HA.out; clear HA; simp only [spec_l07Fewest.l0] at H; by_cases c9 : x8_1 ≥ 0
     ·rw [if_pos c9] at H; have c9b0 : decide (0 ≤ x8_1) = true := decide_eq_true c9; clear c9; by_cases c10 : 0 ≤ x8_1
      ·rw [if_pos c10] at H; have c10b0 : decide (0 ≤ x8_1) = true := decide_eq_true c10; clear c10; by_cases c11 : x8_1 < (x6_1.length : Int)
       ·rw [if_pos c11] at H; have c11b0 : decide (x8_1 < (x6_1.length : Int)) = true := decide_eq_true c11; clear c11; obtain ⟨y344, hy344⟩ : ∃ y_ : List Int, y_ = (x6_1.set (x8_1 : Int).toNat (l0.length : Int)) := ⟨_, rfl⟩; (replace H : (spec_l07Fewest.l1 k1 l0 a1 (l0.length : Int) y344 x7_1 x8_1 (wrap64 (x8_1 + 1))) = some r := by first | (rw [hy344]; with_reducible exact H) | (have H2_ := (b6 _ _).symm.trans H; rw [hy344]; with_reducible exact H2_) | (have H2_ := (b6 _ _).symm.trans H; with_reducible exact H2_) | with_reducible exact H | (rw [hy344]; exact H) | exact H); have Ny344 := aa hy344; clear hy344; have H' := aa H; clear H; have p12 : 0 ≤ (x8_1 : Int) := of_decide_eq_true (by first | (with_reducible assumption) | assumption); have q12 : (x8_1 : Int) < ((x6_1.length : Int) : Int) := of_decide_eq_true (by first | (with_reducible assumption) | assumption); obtain ⟨go12, co12, eo12, gb12, gl12, cl12, HG12⟩ := Kd.R_form HO_6.out (by omega); (first | cases eo12 | (injection eo12 with ea_ en_ ec_; (first | subst ea_ | (injection ea_ with ea_; subst ea_)); subst ec_; clear en_)); have GB12 := aa gb12; have GG12 := aa HG12; clear gb12 gl12 HG12; obtain ⟨hx12_0, hf12_0⟩ := Kd.R_celln 0 HO_6.out (x8_1 : Int) p12 q12; replace p12 := eq_true p12; replace q12 := eq_true q12; have HP13 := Kd.R_putg HO_6.out (x8_1 : Int) (l0.length : Int)
        go_wp2_with (first | ((with_reducible refine gate_store (t := 2) (p := 27) rfl ?_); refine store_event (t := 2) (p := 27) (v := ?vo_w14) (w1 := (wr.setCell ⟨go12, (x8_1 : Int).toNat, none⟩ (.int .i64 (l0.length : Int)))) ?hg ?ho ?hn ?hr ?_; (case ho => rfl); (case hg => rfl); (case hn => rfl); (case hr => first | (go_simp; done) | (go_simp; rfl)); intro w14 hw; have hg : wr.grownBy w14 (some go12) := (by rw [hw]; exact HP13.2); have hp_ : Kd.R (Kd.int .i64) 2 w14 w.heap.size (fun k_ => some k_ ≠ (v342 : Value).ownBlock) (.slice (some ⟨go12, 0, none⟩) x6_1.length co12) y344 := (by rw [hw, Ny344.out]; exact HP13.1); clear HP13; have n0_ := aa (hp_); have n1_ := aa (Kd.R_after (v := (.slice (some ⟨go12, 0, none⟩) x6_1.length co12)) (v1 := (.slice (some ⟨go12, 0, none⟩) x6_1.length co12)) (ok := (fun _ => True)) (by (with_reducible repeat (first | apply ah | apply ag | apply ai)); exact bc HO_7.out (fun _ hk => ⟨trivial, hk⟩)) hg (.inl rfl)); have n2_ := aa ((by rw [hw]; exact ak (HB.out) GB12.out : Below w.heap.size w w14)); clear HO_6; clear HO_7; clear HB; have HO_6 := n0_; have HO_7 := n1_; have HB := n2_; clear n0_ n1_ n2_; clear hg hw hp_))
        go_loopg [9] k1 (fun kq v9 w' => ∃ (x6_2 : List Int) (x7_2 : List Int) (x9_2 : Int), v9 = .int .i64 x9_2 ∧ Aside0 (spec_l07Fewest.l1 kq l0 a1 (l0.length : Int) x6_2 x7_2 x8_1 x9_2 = some r) ∧ Aside0 (kq ≤ k1) ∧ Aside0 (Kd.R (Kd.int .i64) 2 w' w.heap.size (fun k_ => some k_ ≠ (v342 : Value).ownBlock) (.slice (some ⟨go12, 0, none⟩) x6_1.length co12) x6_2) ∧ Aside0 (Kd.R (Kd.int .i64) 2 w' w.heap.size (fun k_ => some k_ ≠ ((.slice (some ⟨go12, 0, none⟩) x6_1.length co12) : Value).ownBlock) v342 x7_2) ∧ Aside0 (Below w.heap.size w w'))
        case atStart => exact ⟨(y344), (x7_1), (wrap64 (x8_1 + 1)), (by first | rfl | (simp; done) | (simp [*]; done)), H', ⟨Nat.le_refl _⟩, ⟨by (with_reducible repeat (first | apply ah | apply ag | apply ai)); exact HO_6.out⟩, ⟨by (with_reducible repeat (first | apply ah | apply ag | apply ai)); exact bc HO_7.out (fun _ hk => hk.2)⟩, ⟨by repeat (first | (with_reducible first | exact HB.out | apply ae | apply ab | apply ac) | exact HB.out)⟩⟩
        case round =>
         clear H'; (try clear c1); (try clear p1); (try clear q1); (try clear hx1); (try clear p2); (try clear c3); (try clear c3b0); (try clear c3b1); (try clear c4); (try clear c4b0); (try clear c4b1); (try clear c5); (try clear p6); (try clear c9); (try clear c9b0); (try clear c10); (try clear c10b0); (try clear c11); (try clear c11b0); (try clear p12); (try clear q12); (try clear hx12); (try clear hf12); (try clear hx12_0); (try clear p12); (try clear p2); (try clear p6); (try clear q12); obtain ⟨x6_2, x7_2, x9_2, rfl, HA, HK2, HO_6, HO_7, HB⟩ := hrel; have hl6_2 := (aw HO_6.out).1; rw [hl6_2] at HO_6; (try simp only [hl6_2]); (try simp only [hl6_2] at HO_7)
         cases gk with
         | zero => exact absurd HA.out (by simp [spec_l07Fewest.l1])
         | succ k2 =>
          have H := HA.out; clear HA; simp only [spec_l07Fewest.l1] at H; by_cases c15 : x9_2 < (l0.length : Int)
          ·rw [if_pos c15] at H; have c15b0 : decide (x9_2 < (l0.length : Int)) = true := decide_eq_true c15; clear c15; by_cases c16 : 0 ≤ x9_2
           ·rw [if_pos c16] at H; have c16b0 : decide (0 ≤ x9_2) = true := decide_eq_true c16; clear c16; by_cases c17 : x9_2 < (x6_2.length : Int)
            ·rw [if_pos c17] at H; have c17b0 : decide (x9_2 < (x6_2.length : Int)) = true := decide_eq_true c17; clear c17; by_cases c18 : 0 ≤ x8_1
             ·rw [if_pos c18] at H; have c18b0 : decide (0 ≤ x8_1) = true := decide_eq_true c18; clear c18; by_cases c19 : x8_1 < (x6_2.length : Int)
              ·rw [if_pos c19] at H; have c19b0 : decide (x8_1 < (x6_2.length : Int)) = true := decide_eq_true c19; clear c19; by_cases c20 : (wrap64 ((rd x6_2 x9_2) + 1)) < (rd x6_2 x8_1)
               ·rw [if_pos c20] at H; have c20b0 : decide ((wrap64 ((rd x6_2 x9_2) + 1)) < (rd x6_2 x8_1)) = true := decide_eq_true c20; clear c20; replace H := bf.mp H; obtain ⟨t347, A210, H⟩ := H; (try dsimp only at H); have A21 := aa A210; clear A210; by_cases c22 : t347 = true
                ·subst c22; have H1 := H; rw [if_pos rfl] at H1; clear H; have H := H1; clear H1; obtain ⟨y349, hy349⟩ : ∃ y_ : List Int, y_ = (x6_2.set (x8_1 : Int).toNat (wrap64 ((rd x6_2 x9_2) + 1))) := ⟨_, rfl⟩; (replace H : (if x8_1 < (x7_2.length : Int) then (spec_l07Fewest.l1 k2 l0 a1 (l0.length : Int) y349 (x7_2.set (x8_1 : Int).toNat x9_2) x8_1 (wrap64 (x9_2 + 1))) else (none)) = some r := by first | (rw [hy349]; with_reducible exact H) | (have H2_ := (b6 _ _).symm.trans H; rw [hy349]; with_reducible exact H2_) | (have H2_ := (b6 _ _).symm.trans H; with_reducible exact H2_) | with_reducible exact H | (rw [hy349]; exact H) | exact H); have Ny349 := aa hy349; clear hy349; by_cases c24 : x8_1 < (x7_2.length : Int)
                 ·rw [if_pos c24] at H; have c24b0 : decide (x8_1 < (x7_2.length : Int)) = true := decide_eq_true c24; clear c24; obtain ⟨y350, hy350⟩ : ∃ y_ : List Int, y_ = (x7_2.set (x8_1 : Int).toNat x9_2) := ⟨_, rfl⟩; (replace H : (spec_l07Fewest.l1 k2 l0 a1 (l0.length : Int) y349 y350 x8_1 (wrap64 (x9_2 + 1))) = some r := by first | (rw [hy350]; with_reducible exact H) | (have H2_ := (b6 _ _).symm.trans H; rw [hy350]; with_reducible exact H2_) | (have H2_ := (b6 _ _).symm.trans H; with_reducible exact H2_) | with_reducible exact H | (rw [hy350]; exact H) | exact H); have Ny350 := aa hy350; clear hy350; have H' := aa H; clear H; (try go_wp2); have n0_ := aa (ai HO_6.out); have n1_ := aa (ai HO_7.out); have n2_ := aa (ac HB.out); clear HO_6; clear HO_7; clear HB; have HO_6 := n0_; have HO_7 := n1_; have HB := n2_; clear n0_ n1_ n2_; have p345 : 0 ≤ (x9_2 : Int) := of_decide_eq_true (by first | (with_reducible assumption) | assumption); have q345 : x9_2 < (x6_2.length : Int) := of_decide_eq_true (by first | (with_reducible assumption) | assumption); obtain ⟨ad345, e345, hx345_0⟩ := ax (aw HO_6.out).2.2 x9_2 p345 q345; obtain rfl : (⟨go12, 0, none⟩ : Addr) = ad345 := (by injection e345); (first | simp only [add_plain] at hx345_0 | simp only [add_at] at hx345_0 | simp only [Addr.add, Nat.zero_add] at hx345_0 | skip); replace p345 := eq_true p345; replace q345 := eq_true q345; have p346 : 0 ≤ (x8_1 : Int) := of_decide_eq_true (by first | (with_reducible assumption) | assumption); have q346 : x8_1 < (x6_2.length : Int) := of_decide_eq_true (by first | (with_reducible assumption) | assumption); obtain ⟨ad346, e346, hx346_0⟩ := ax (aw HO_6.out).2.2 x8_1 p346 q346; obtain rfl : (⟨go12, 0, none⟩ : Addr) = ad346 := (by injection e346); (first | simp only [add_plain] at hx346_0 | simp only [add_at] at hx346_0 | simp only [Addr.add, Nat.zero_add] at hx346_0 | skip); replace p346 := eq_true p346; replace q346 := eq_true q346; refine start_ (n := 17) (S := fun w' => w'.cell? ⟨go12, (x9_2).toNat, none⟩ = some (.int .i64 (rd x6_2 x9_2)) ∧ w'.cell? ⟨go12, (x8_1).toNat, none⟩ = some (.int .i64 (rd x6_2 x8_1))) (ds := []) #[false, false, false, false, false, false, false, false, false, false, false, false, false, false, false, false, false] (by kernel_rfl) rfl rfl ⟨hx345_0, hx346_0⟩ (fun hHeld => ?_); refine with_tabW spec_l07Fewest.tab11 spec_l07Fewest.bits11 (fun HT_ HW_ => ?_); generalize wr.drew = w26 at HO_6 HO_7 HB hx345_0 hx346_0 hHeld ⊢; refine pure_ (i := 0) (N := some 35) (v := ?_) (a' := ?_) #[true, false, false, false, false, false, false, false, false, false, false, false, false, false, false, false, false] rfl rfl (any_of HT_.out (by kernel_rfl)) (fun _ _ _ h => h) (Or.inl ⟨by rfl, ?_⟩) ?_ ?_; rotate_left
                  ·intro w'; go_simp; (with_reducible rfl)
                  rotate_left
                  ·simp only [Act.put, a7, a8, a9, i64_w, i32_w]; rfl
                  refine pure_ (i := 1) (N := some 36) (v := ?_) (a' := ?_) #[true, true, false, false, false, false, false, false, false, false, false, false, false, false, false, false, false] rfl rfl (any_of HT_.out (by kernel_rfl)) (fun _ _ _ h => h) (Or.inl ⟨by rfl, ?_⟩) ?_ ?_; rotate_left
                  ·intro w'; go_simp; (with_reducible rfl)
                  rotate_left
                  ·simp only [Act.put, a7, a8, a9, i64_w, i32_w]; rfl
                  refine pure_ (i := 2) (N := some 37) (v := ?_) (a' := ?_) #[true, true, true, false, false, false, false, false, false, false, false, false, false, false, false, false, false] rfl rfl (any_of HT_.out (by kernel_rfl)) (fun _ _ _ h => h) (Or.inl ⟨by rfl, ?_⟩) ?_ ?_; rotate_left
                  ·intro w'; go_simp; (with_reducible rfl)
                  rotate_left
                  ·simp only [Act.put, a7, a8, a9, i64_w, i32_w]; rfl
                  refine pure_ (i := 5) (N := some 40) (v := ?_) (a' := ?_) #[true, true, true, false, false, true, false, false, false, false, false, false, false, false, false, false, false] rfl rfl (any_of HT_.out (by kernel_rfl)) (fun _ _ _ h => h) (Or.inl ⟨by rfl, ?_⟩) ?_ ?_; rotate_left
                  ·intro w'; go_simp; (with_reducible rfl)
                  rotate_left
                  ·simp only [Act.put, a7, a8, a9, i64_w, i32_w]; rfl
                  refine pure_ (i := 6) (N := some 41) (v := ?_) (a' := ?_) #[true, true, true, false, false, true, true, false, false, false, false, false, false, false, false, false, false] rfl rfl (any_of HT_.out (by kernel_rfl)) (fun _ _ _ h => h) (Or.inl ⟨by rfl, ?_⟩) ?_ ?_; rotate_left
                  ·intro w'; go_simp; (with_reducible rfl)
                  rotate_left
                  ·simp only [Act.put, a7, a8, a9, i64_w, i32_w]; rfl
                  refine pure_ (i := 7) (N := some 42) (v := ?_) (a' := ?_) #[true, true, true, false, false, true, true, true, false, false, false, false, false, false, false, false, false] rfl rfl (any_of HT_.out (by kernel_rfl)) (fun _ _ _ h => h) (Or.inl ⟨by rfl, ?_⟩) ?_ ?_; rotate_left
                  ·intro w'; go_simp; (with_reducible rfl)
                  rotate_left
                  ·simp only [Act.put, a7, a8, a9, i64_w, i32_w]; rfl
                  refine take_ (i := 3) (N := some 38) (v := ?_) (a' := ?_) #[true, true, true, true, false, true, true, true, false, false, false, false, false, false, false, false, false] rfl rfl (take_ofW HT_.out HW_.out (by kernel_rfl)) (fun _ _ _ h => h) (Or.inl ⟨by rfl, ?_⟩) hHeld ?_ ?_; rotate_left
                  ·rintro w' ⟨s0, s1⟩; go_simp; (with_reducible rfl)
                  rotate_left
                  ·simp only [Act.put, a7, a8, a9, i64_w, i32_w]; rfl
                  refine pure_ (i := 4) (N := some 39) (v := ?_) (a' := ?_) #[true, true, true, true, true, true, true, true, false, false, false, false, false, false, false, false, false] rfl rfl (any_of HT_.out (by kernel_rfl)) (fun _ _ _ h => h) (Or.inl ⟨by rfl, ?_⟩) ?_ ?_; rotate_left
                  ·intro w'; go_simp; (with_reducible rfl)
                  rotate_left
                  ·simp only [Act.put, a7, a8, a9, i64_w, i32_w]; rfl
                  refine take_ (i := 8) (N := some 43) (v := ?_) (a' := ?_) #[true, true, true, true, true, true, true, true, true, false, false, false, false, false, false, false, false] rfl rfl (take_ofW HT_.out HW_.out (by kernel_rfl)) (fun _ _ _ h => h) (Or.inl ⟨by rfl, ?_⟩) hHeld ?_ ?_; rotate_left
                  ·rintro w' ⟨s0, s1⟩; go_simp; (with_reducible rfl)
                  rotate_left
                  ·simp only [Act.put, a7, a8, a9, i64_w, i32_w]; rfl
                  refine pure_ (i := 9) (N := some 44) (v := ?_) (a' := ?_) #[true, true, true, true, true, true, true, true, true, true, false, false, false, false, false, false, false] rfl rfl (any_of HT_.out (by kernel_rfl)) (fun _ _ _ h => h) (Or.inl ⟨by rfl, ?_⟩) ?_ ?_; rotate_left
                  ·intro w'; go_simp; (with_reducible rfl)
                  rotate_left
                  ·simp only [Act.put, a7, a8, a9, i64_w, i32_w]; rfl
                  refine pure_ (i := 10) (N := some 45) (v := ?_) (a' := ?_) #[true, true, true, true, true, true, true, true, true, true, true, false, false, false, false, false, false] rfl rfl (any_of HT_.out (by kernel_rfl)) (fun _ _ _ h => h) (Or.inl ⟨by rfl, ?_⟩) ?_ ?_; rotate_left
                  ·intro w'; go_simp; (with_reducible rfl)
                  rotate_left
                  ·simp only [Act.put, a7, a8, a9, i64_w, i32_w]; rfl
                  refine pure_ (i := 11) (N := some 46) (v := ?_) (a' := ?_) #[true, true, true, true, true, true, true, true, true, true, true, true, false, false, false, false, false] rfl rfl (any_of HT_.out (by kernel_rfl)) (fun _ _ _ h => h) (Or.inl ⟨by rfl, ?_⟩) ?_ ?_; rotate_left
                  ·intro w'; go_simp; (with_reducible rfl)
                  rotate_left
                  ·simp only [Act.put, a7, a8, a9, i64_w, i32_w]; rfl
                  refine pure_ (i := 12) (N := some 47) (v := ?_) (a' := ?_) #[true, true, true, true, true, true, true, true, true, true, true, true, true, false, false, false, false] rfl rfl (any_of HT_.out (by kernel_rfl)) (fun _ _ _ h => h) (Or.inl ⟨by rfl, ?_⟩) ?_ ?_; rotate_left
                  ·intro w'; go_simp; (with_reducible rfl)
                  rotate_left
                  ·simp only [Act.put, a7, a8, a9, i64_w, i32_w]; rfl
                  refine pure_ (i := 13) (N := some 48) (v := ?_) (a' := ?_) #[true, true, true, true, true, true, true, true, true, true, true, true, true, true, false, false, false] rfl rfl (any_of HT_.out (by kernel_rfl)) (fun _ _ _ h => h) (Or.inl ⟨by rfl, ?_⟩) ?_ ?_; rotate_left
                  ·intro w'; go_simp; (with_reducible rfl)
                  rotate_left
                  ·simp only [Act.put, a7, a8, a9, i64_w, i32_w]; rfl
                  refine pure_ (i := 14) (N := some 49) (v := ?_) (a' := ?_) #[true, true, true, true, true, true, true, true, true, true, true, true, true, true, true, false, false] rfl rfl (any_of HT_.out (by kernel_rfl)) (fun _ _ _ h => h) (Or.inl ⟨by rfl, ?_⟩) ?_ ?_; rotate_left
                  ·intro w'; go_simp; (with_reducible rfl)
                  rotate_left
                  ·simp only [Act.put, a7, a8, a9, i64_w, i32_w]; rfl
                  refine one_ (i := 15) (N := some 50) #[true, true, true, true, true, true, true, true, true, true, true, true, true, true, true, true, false] rfl rfl (one_of HT_.out (by kernel_rfl)) (by decide) (fun K hK => ?_); refine goes_ Tryz.func67 (by kernel_rfl) rfl #[.slice A0 l0.length c0, .int .i64 x8_1, .int .i64 x9_2, .int .i64 a1] (by rfl) rfl rfl (by (try simp only [b3, b4, b5]); first | done | rfl | (simp only [b0, b2]; rfl)) ?_; (with_reducible refine (spec_l07Within.calls k2 _ _ l0 x8_1 x9_2 a1 true _ ?side1 ?side2 A21.out).mono ?_); (case side1 => repeat (first | exact (ay HR0.out HB.out) | (with_reducible refine ar ?_ _) | (with_reducible refine au ?_ _) | (with_reducible refine av ?_))); (case side2 => exact HC0.out); rintro e w27 ⟨rfl, hb⟩; have HS0_ := (hb.cell (World.block_lt_of_cell? _ _ (hHeld.1))).trans (hHeld.1); have HS1_ := (hb.cell (World.block_lt_of_cell? _ _ (hHeld.2))).trans (hHeld.2); refine ⟨_, rfl, ?_⟩; have n0_ := aa (be (by (with_reducible repeat (first | apply ah | apply ag | apply ai)); exact HO_6.out) hb); have n1_ := aa (be (by (with_reducible repeat (first | apply ah | apply ag | apply ai)); exact HO_7.out) hb); have n2_ := aa (af (by repeat (first | (with_reducible first | exact HB.out | apply ae | apply ab | apply ac) | exact HB.out)) hb); clear HO_6; clear HO_7; clear HB; have HO_6 := n0_; have HO_7 := n1_; have HB := n2_; clear n0_ n1_ n2_; (try clear hb); (try clear hb2); (try clear hk); (try clear hi); refine hK.out _ _ ⟨HS0_, HS1_⟩ (fun hHeld => ?_); clear hK K; refine norm_ (a' := ?_) ?_ ?_; rotate_left
                  ·show Act.put _ (some 50) _ = _; simp only [Act.put, a7, a8, a9, i64_w, i32_w]; rfl
                  refine pure_ (i := 16) (N := some 51) (v := ?_) (a' := ?_) #[true, true, true, true, true, true, true, true, true, true, true, true, true, true, true, true, true] rfl rfl (any_of HT_.out (by kernel_rfl)) (fun _ _ _ h => h) (Or.inl ⟨by rfl, ?_⟩) ?_ ?_; rotate_left
                  ·intro w'; go_simp; (with_reducible rfl)
                  rotate_left
                  ·simp only [Act.put, a7, a8, a9, i64_w, i32_w]; rfl
                  refine done_ (done_of HT_.out (by kernel_rfl)) ?_; have p348 : 0 ≤ (x9_2 : Int) := of_decide_eq_true (by first | (with_reducible assumption) | assumption); have q348 : x9_2 < (x6_2.length : Int) := of_decide_eq_true (by first | (with_reducible assumption) | assumption); obtain ⟨ad348, e348, hx348_0⟩ := ax (aw HO_6.out).2.2 x9_2 p348 q348; obtain rfl : (⟨go12, 0, none⟩ : Addr) = ad348 := (by injection e348); (first | simp only [add_plain] at hx348_0 | simp only [add_at] at hx348_0 | simp only [Addr.add, Nat.zero_add] at hx348_0 | skip); replace p348 := eq_true p348; replace q348 := eq_true q348; have p23 : 0 ≤ (x8_1 : Int) := of_decide_eq_true (by first | (with_reducible assumption) | assumption); have q23 : (x8_1 : Int) < ((x6_2.length : Int) : Int) := of_decide_eq_true (by first | (with_reducible assumption) | assumption); obtain ⟨hx23_0, hf23_0⟩ := Kd.R_celln 0 HO_6.out (x8_1 : Int) p23 q23; replace p23 := eq_true p23; replace q23 := eq_true q23; obtain ⟨hy28_, hz28_⟩ := Kd.R_celln 0 HO_6.out (x8_1 : Int) (of_decide_eq_true (by first | (with_reducible assumption) | assumption)) (of_decide_eq_true (by first | (with_reducible assumption) | assumption)); have HP28 := Kd.R_putg HO_6.out (x8_1 : Int) (wrap64 ((rd x6_2 x9_2) + 1)); (try go_wp2_with (first | ((with_reducible refine gate_store (t := 2) (p := 59) rfl ?_); refine store_event (t := 2) (p := 59) (v := ?vo_w29) (w1 := (w27.setCell ⟨go12, (x8_1 : Int).toNat, none⟩ (.int .i64 (wrap64 ((rd x6_2 x9_2) + 1))))) ?hg ?ho ?hn ?hr ?_; (case ho => rfl); (case hg => rfl); (case hn => rfl); (case hr => first | (go_simp; done) | (go_simp; rfl)); intro w29 hw; have hg : w27.grownBy w29 (some go12) := (by rw [hw]; exact HP28.2); have hp_ : Kd.R (Kd.int .i64) 2 w29 w.heap.size (fun k_ => some k_ ≠ (v342 : Value).ownBlock) (.slice (some ⟨go12, 0, none⟩) x6_2.length co12) y349 := (by rw [hw, Ny349.out]; exact HP28.1); clear HP28; have n0_ := aa (hp_); have n1_ := aa (Kd.R_after (v := (.slice (some ⟨go12, 0, none⟩) x6_2.length co12)) (v1 := (.slice (some ⟨go12, 0, none⟩) x6_2.length co12)) (ok := (fun _ => True)) (by (with_reducible repeat (first | apply ah | apply ag | apply ai)); exact bc HO_7.out (fun _ hk => ⟨trivial, hk⟩)) hg (.inl rfl)); have n2_ := aa ((by rw [hw]; exact ak (HB.out) GB12.out : Below w.heap.size w w29)); clear HO_6; clear HO_7; clear HB; have HO_6 := n0_; have HO_7 := n1_; have HB := n2_; clear n0_ n1_ n2_; clear hg hw hp_; have p25 : 0 ≤ (x8_1 : Int) := of_decide_eq_true (by first | (with_reducible assumption) | assumption); have q25 : (x8_1 : Int) < ((x7_2.length : Int) : Int) := of_decide_eq_true (by first | (with_reducible assumption) | assumption); obtain ⟨go25, co25, eo25, gb25, gl25, cl25, HG25⟩ := Kd.R_form HO_7.out (by omega); (first | cases eo25 | (injection eo25 with ea_ en_ ec_; (first | subst ea_ | (injection ea_ with ea_; subst ea_)); subst ec_; clear en_)); have GB25 := aa gb25; have GG25 := aa HG25; clear gb25 gl25 HG25; obtain ⟨hx25_0, hf25_0⟩ := Kd.R_celln 0 HO_7.out (x8_1 : Int) p25 q25; replace p25 := eq_true p25; replace q25 := eq_true q25; have n_ := aa (bc (ok' := (fun k_ => some k_ ≠ (.slice (some ⟨go12, 0, none⟩) x6_2.length co12 : Value).ownBlock)) HO_7.out (fun k_ hk => hk.2)); clear HO_7; have HO_7 := n_; clear n_; obtain ⟨hy30_, hz30_⟩ := Kd.R_celln 0 HO_7.out (x8_1 : Int) (of_decide_eq_true (by first | (with_reducible assumption) | assumption)) (of_decide_eq_true (by first | (with_reducible assumption) | assumption)); have HP30 := Kd.R_putg HO_7.out (x8_1 : Int) x9_2) | ((with_reducible refine gate_store (t := 2) (p := 63) rfl ?_); refine store_event (t := 2) (p := 63) (v := ?vo_w31) (w1 := (w29.setCell ⟨go25, (x8_1 : Int).toNat, none⟩ (.int .i64 x9_2))) ?hg ?ho ?hn ?hr ?_; (case ho => rfl); (case hg => rfl); (case hn => rfl); (case hr => first | (go_simp; done) | (go_simp; rfl)); intro w31 hw; have hg : w29.grownBy w31 (some go25) := (by rw [hw]; exact HP30.2); have hp_ : Kd.R (Kd.int .i64) 2 w31 w.heap.size (fun k_ => some k_ ≠ (.slice (some ⟨go12, 0, none⟩) x6_2.length co12 : Value).ownBlock) (.slice (some ⟨go25, 0, none⟩) x7_2.length co25) y350 := (by rw [hw, Ny350.out]; exact HP30.1); clear HP30; have n0_ := aa (Kd.R_after (v := (.slice (some ⟨go25, 0, none⟩) x7_2.length co25)) (v1 := (.slice (some ⟨go25, 0, none⟩) x7_2.length co25)) (ok := (fun _ => True)) (by (with_reducible repeat (first | apply ah | apply ag | apply ai)); exact bc HO_6.out (fun _ hk => ⟨trivial, hk⟩)) hg (.inl rfl)); have n1_ := aa (hp_); have n2_ := aa ((by rw [hw]; exact ak (HB.out) GB25.out : Below w.heap.size w w31)); clear HO_6; clear HO_7; clear HB; have HO_6 := n0_; have HO_7 := n1_; have HB := n2_; clear n0_ n1_ n2_; clear hg hw hp_))); (try simp only [← hl6_2]); go_roundg k2
                  case measure => have := HK1.out; have := HK2.out; omega
                  case rel => exact ⟨(y349), (y350), (wrap64 (x9_2 + 1)), (by first | rfl | (simp; done) | (simp [*]; done)), H', ⟨by have := HK1.out; have := HK2.out; omega⟩, ⟨by (try simp only [hl6_2]); (with_reducible repeat (first | apply ah | apply ag | apply ai)); exact bc HO_6.out (fun _ hk => hk.2)⟩, ⟨by (try simp only [hl6_2]); (with_reducible repeat (first | apply ah | apply ag | apply ai)); exact HO_7.out⟩, ⟨by repeat (first | (with_reducible first | exact HB.out | apply ae | apply ab | apply ac) | exact HB.out)⟩⟩
                 ·rw [if_neg c24] at H; exact absurd H (by simp)
                ·replace c22 := Bool.eq_false_iff.mpr c22; subst c22; have H1 := H; rw [if_neg (show ¬ (false = true) by decide)] at H1; clear H; have H := H1; clear H1; have H' := aa H; clear H; (try go_wp2); have n0_ := aa (ai HO_6.out); have n1_ := aa (ai HO_7.out); have n2_ := aa (ac HB.out); clear HO_6; clear HO_7; clear HB; have HO_6 := n0_; have HO_7 := n1_; have HB := n2_; clear n0_ n1_ n2_; have p345 : 0 ≤ (x9_2 : Int) := of_decide_eq_true (by first | (with_reducible assumption) | assumption); have q345 : x9_2 < (x6_2.length : Int) := of_decide_eq_true (by first | (with_reducible assumption) | assumption); obtain ⟨ad345, e345, hx345_0⟩ := ax (aw HO_6.out).2.2 x9_2 p345 q345; obtain rfl : (⟨go12, 0, none⟩ : Addr) = ad345 := (by injection e345); (first | simp only [add_plain] at hx345_0 | simp only [add_at] at hx345_0 | simp only [Addr.add, Nat.zero_add] at hx345_0 | skip); replace p345 := eq_true p345; replace q345 := eq_true q345; have p346 : 0 ≤ (x8_1 : Int) := of_decide_eq_true (by first | (with_reducible assumption) | assumption); have q346 : x8_1 < (x6_2.length : Int) := of_decide_eq_true (by first | (with_reducible assumption) | assumption); obtain ⟨ad346, e346, hx346_0⟩ := ax (aw HO_6.out).2.2 x8_1 p346 q346; obtain rfl : (⟨go12, 0, none⟩ : Addr) = ad346 := (by injection e346); (first | simp only [add_plain] at hx346_0 | simp only [add_at] at hx346_0 | simp only [Addr.add, Nat.zero_add] at hx346_0 | skip); replace p346 := eq_true p346; replace q346 := eq_true q346; refine start_ (n := 17) (S := fun w' => w'.cell? ⟨go12, (x9_2).toNat, none⟩ = some (.int .i64 (rd x6_2 x9_2)) ∧ w'.cell? ⟨go12, (x8_1).toNat, none⟩ = some (.int .i64 (rd x6_2 x8_1))) (ds := []) #[false, false, false, false, false, false, false, false, false, false, false, false, false, false, false, false, false] (by kernel_rfl) rfl rfl ⟨hx345_0, hx346_0⟩ (fun hHeld => ?_); refine with_tabW spec_l07Fewest.tab11 spec_l07Fewest.bits11 (fun HT_ HW_ => ?_); generalize wr.drew = w32 at HO_6 HO_7 HB hx345_0 hx346_0 hHeld ⊢; refine pure_ (i := 0) (N := some 35) (v := ?_) (a' := ?_) #[true, false, false, false, false, false, false, false, false, false, false, false, false, false, false, false, false] rfl rfl (any_of HT_.out (by kernel_rfl)) (fun _ _ _ h => h) (Or.inl ⟨by rfl, ?_⟩) ?_ ?_; rotate_left
                 ·intro w'; go_simp; (with_reducible rfl)
                 rotate_left
                 ·simp only [Act.put, a7, a8, a9, i64_w, i32_w]; rfl
                 refine pure_ (i := 1) (N := some 36) (v := ?_) (a' := ?_) #[true, true, false, false, false, false, false, false, false, false, false, false, false, false, false, false, false] rfl rfl (any_of HT_.out (by kernel_rfl)) (fun _ _ _ h => h) (Or.inl ⟨by rfl, ?_⟩) ?_ ?_; rotate_left
                 ·intro w'; go_simp; (with_reducible rfl)
                 rotate_left
                 ·simp only [Act.put, a7, a8, a9, i64_w, i32_w]; rfl
                 refine pure_ (i := 2) (N := some 37) (v := ?_) (a' := ?_) #[true, true, true, false, false, false, false, false, false, false, false, false, false, false, false, false, false] rfl rfl (any_of HT_.out (by kernel_rfl)) (fun _ _ _ h => h) (Or.inl ⟨by rfl, ?_⟩) ?_ ?_; rotate_left
                 ·intro w'; go_simp; (with_reducible rfl)
                 rotate_left
                 ·simp only [Act.put, a7, a8, a9, i64_w, i32_w]; rfl
                 refine pure_ (i := 5) (N := some 40) (v := ?_) (a' := ?_) #[true, true, true, false, false, true, false, false, false, false, false, false, false, false, false, false, false] rfl rfl (any_of HT_.out (by kernel_rfl)) (fun _ _ _ h => h) (Or.inl ⟨by rfl, ?_⟩) ?_ ?_; rotate_left
                 ·intro w'; go_simp; (with_reducible rfl)
                 rotate_left
                 ·simp only [Act.put, a7, a8, a9, i64_w, i32_w]; rfl
                 refine pure_ (i := 6) (N := some 41) (v := ?_) (a' := ?_) #[true, true, true, false, false, true, true, false, false, false, false, false, false, false, false, false, false] rfl rfl (any_of HT_.out (by kernel_rfl)) (fun _ _ _ h => h) (Or.inl ⟨by rfl, ?_⟩) ?_ ?_; rotate_left
                 ·intro w'; go_simp; (with_reducible rfl)
                 rotate_left
                 ·simp only [Act.put, a7, a8, a9, i64_w, i32_w]; rfl
                 refine pure_ (i := 7) (N := some 42) (v := ?_) (a' := ?_) #[true, true, true, false, false, true, true, true, false, false, false, false, false, false, false, false, false] rfl rfl (any_of HT_.out (by kernel_rfl)) (fun _ _ _ h => h) (Or.inl ⟨by rfl, ?_⟩) ?_ ?_; rotate_left
                 ·intro w'; go_simp; (with_reducible rfl)
                 rotate_left
                 ·simp only [Act.put, a7, a8, a9, i64_w, i32_w]; rfl
                 refine take_ (i := 3) (N := some 38) (v := ?_) (a' := ?_) #[true, true, true, true, false, true, true, true, false, false, false, false, false, false, false, false, false] rfl rfl (take_ofW HT_.out HW_.out (by kernel_rfl)) (fun _ _ _ h => h) (Or.inl ⟨by rfl, ?_⟩) hHeld ?_ ?_; rotate_left
                 ·rintro w' ⟨s0, s1⟩; go_simp; (with_reducible rfl)
                 rotate_left
                 ·simp only [Act.put, a7, a8, a9, i64_w, i32_w]; rfl
                 refine pure_ (i := 4) (N := some 39) (v := ?_) (a' := ?_) #[true, true, true, true, true, true, true, true, false, false, false, false, false, false, false, false, false] rfl rfl (any_of HT_.out (by kernel_rfl)) (fun _ _ _ h => h) (Or.inl ⟨by rfl, ?_⟩) ?_ ?_; rotate_left
                 ·intro w'; go_simp; (with_reducible rfl)
                 rotate_left
                 ·simp only [Act.put, a7, a8, a9, i64_w, i32_w]; rfl
                 refine take_ (i := 8) (N := some 43) (v := ?_) (a' := ?_) #[true, true, true, true, true, true, true, true, true, false, false, false, false, false, false, false, false] rfl rfl (take_ofW HT_.out HW_.out (by kernel_rfl)) (fun _ _ _ h => h) (Or.inl ⟨by rfl, ?_⟩) hHeld ?_ ?_; rotate_left
                 ·rintro w' ⟨s0, s1⟩; go_simp; (with_reducible rfl)
                 rotate_left
                 ·simp only [Act.put, a7, a8, a9, i64_w, i32_w]; rfl
                 refine pure_ (i := 9) (N := some 44) (v := ?_) (a' := ?_) #[true, true, true, true, true, true, true, true, true, true, false, false, false, false, false, false, false] rfl rfl (any_of HT_.out (by kernel_rfl)) (fun _ _ _ h => h) (Or.inl ⟨by rfl, ?_⟩) ?_ ?_; rotate_left
                 ·intro w'; go_simp; (with_reducible rfl)
                 rotate_left
                 ·simp only [Act.put, a7, a8, a9, i64_w, i32_w]; rfl
                 refine pure_ (i := 10) (N := some 45) (v := ?_) (a' := ?_) #[true, true, true, true, true, true, true, true, true, true, true, false, false, false, false, false, false] rfl rfl (any_of HT_.out (by kernel_rfl)) (fun _ _ _ h => h) (Or.inl ⟨by rfl, ?_⟩) ?_ ?_; rotate_left
                 ·intro w'; go_simp; (with_reducible rfl)
                 rotate_left
                 ·simp only [Act.put, a7, a8, a9, i64_w, i32_w]; rfl
                 refine pure_ (i := 11) (N := some 46) (v := ?_) (a' := ?_) #[true, true, true, true, true, true, true, true, true, true, true, true, false, false, false, false, false] rfl rfl (any_of HT_.out (by kernel_rfl)) (fun _ _ _ h => h) (Or.inl ⟨by rfl, ?_⟩) ?_ ?_; rotate_left
                 ·intro w'; go_simp; (with_reducible rfl)
                 rotate_left
                 ·simp only [Act.put, a7, a8, a9, i64_w, i32_w]; rfl
                 refine pure_ (i := 12) (N := some 47) (v := ?_) (a' := ?_) #[true, true, true, true, true, true, true, true, true, true, true, true, true, false, false, false, false] rfl rfl (any_of HT_.out (by kernel_rfl)) (fun _ _ _ h => h) (Or.inl ⟨by rfl, ?_⟩) ?_ ?_; rotate_left
                 ·intro w'; go_simp; (with_reducible rfl)
                 rotate_left
                 ·simp only [Act.put, a7, a8, a9, i64_w, i32_w]; rfl
                 refine pure_ (i := 13) (N := some 48) (v := ?_) (a' := ?_) #[true, true, true, true, true, true, true, true, true, true, true, true, true, true, false, false, false] rfl rfl (any_of HT_.out (by kernel_rfl)) (fun _ _ _ h => h) (Or.inl ⟨by rfl, ?_⟩) ?_ ?_; rotate_left
                 ·intro w'; go_simp; (with_reducible rfl)
                 rotate_left
                 ·simp only [Act.put, a7, a8, a9, i64_w, i32_w]; rfl
                 refine pure_ (i := 14) (N := some 49) (v := ?_) (a' := ?_) #[true, true, true, true, true, true, true, true, true, true, true, true, true, true, true, false, false] rfl rfl (any_of HT_.out (by kernel_rfl)) (fun _ _ _ h => h) (Or.inl ⟨by rfl, ?_⟩) ?_ ?_; rotate_left
                 ·intro w'; go_simp; (with_reducible rfl)
                 rotate_left
                 ·simp only [Act.put, a7, a8, a9, i64_w, i32_w]; rfl
                 refine one_ (i := 15) (N := some 50) #[true, true, true, true, true, true, true, true, true, true, true, true, true, true, true, true, false] rfl rfl (one_of HT_.out (by kernel_rfl)) (by decide) (fun K hK => ?_); refine goes_ Tryz.func67 (by kernel_rfl) rfl #[.slice A0 l0.length c0, .int .i64 x8_1, .int .i64 x9_2, .int .i64 a1] (by rfl) rfl rfl (by (try simp only [b3, b4, b5]); first | done | rfl | (simp only [b0, b2]; rfl)) ?_; (with_reducible refine (spec_l07Within.calls k2 _ _ l0 x8_1 x9_2 a1 false _ ?side1 ?side2 A21.out).mono ?_); (case side1 => repeat (first | exact (ay HR0.out HB.out) | (with_reducible refine ar ?_ _) | (with_reducible refine au ?_ _) | (with_reducible refine av ?_))); (case side2 => exact HC0.out); rintro e w33 ⟨rfl, hb⟩; have HS0_ := (hb.cell (World.block_lt_of_cell? _ _ (hHeld.1))).trans (hHeld.1); have HS1_ := (hb.cell (World.block_lt_of_cell? _ _ (hHeld.2))).trans (hHeld.2); refine ⟨_, rfl, ?_⟩; have n0_ := aa (be (by (with_reducible repeat (first | apply ah | apply ag | apply ai)); exact HO_6.out) hb); have n1_ := aa (be (by (with_reducible repeat (first | apply ah | apply ag | apply ai)); exact HO_7.out) hb); have n2_ := aa (af (by repeat (first | (with_reducible first | exact HB.out | apply ae | apply ab | apply ac) | exact HB.out)) hb); clear HO_6; clear HO_7; clear HB; have HO_6 := n0_; have HO_7 := n1_; have HB := n2_; clear n0_ n1_ n2_; (try clear hb); (try clear hb2); (try clear hk); (try clear hi); refine hK.out _ _ ⟨HS0_, HS1_⟩ (fun hHeld => ?_); clear hK K; refine norm_ (a' := ?_) ?_ ?_; rotate_left
                 ·show Act.put _ (some 50) _ = _; simp only [Act.put, a7, a8, a9, i64_w, i32_w]; rfl
                 refine pure_ (i := 16) (N := some 51) (v := ?_) (a' := ?_) #[true, true, true, true, true, true, true, true, true, true, true, true, true, true, true, true, true] rfl rfl (any_of HT_.out (by kernel_rfl)) (fun _ _ _ h => h) (Or.inl ⟨by rfl, ?_⟩) ?_ ?_; rotate_left
                 ·intro w'; go_simp; (with_reducible rfl)
                 rotate_left
                 ·simp only [Act.put, a7, a8, a9, i64_w, i32_w]; rfl
                 refine done_ (done_of HT_.out (by kernel_rfl)) ?_; (try go_wp2); (try simp only [← hl6_2]); go_roundg k2
                 case measure => have := HK1.out; have := HK2.out; omega
                 case rel => exact ⟨(x6_2), (x7_2), (wrap64 (x9_2 + 1)), (by first | rfl | (simp; done) | (simp [*]; done)), H', ⟨by have := HK1.out; have := HK2.out; omega⟩, ⟨by (try simp only [hl6_2]); (with_reducible repeat (first | apply ah | apply ag | apply ai)); exact HO_6.out⟩, ⟨by (try simp only [hl6_2]); (with_reducible repeat (first | apply ah | apply ag | apply ai)); exact HO_7.out⟩, ⟨by repeat (first | (with_reducible first | exact HB.out | apply ae | apply ab | apply ac) | exact HB.out)⟩⟩
               ·rw [if_neg c20] at H; have c20b0 : decide ((wrap64 ((rd x6_2 x9_2) + 1)) < (rd x6_2 x8_1)) = false := decide_eq_false c20; clear c20; have H' := aa H; clear H; (try go_wp2); have n0_ := aa (ai HO_6.out); have n1_ := aa (ai HO_7.out); have n2_ := aa (ac HB.out); clear HO_6; clear HO_7; clear HB; have HO_6 := n0_; have HO_7 := n1_; have HB := n2_; clear n0_ n1_ n2_; have p345 : 0 ≤ (x9_2 : Int) := of_decide_eq_true (by first | (with_reducible assumption) | assumption); have q345 : x9_2 < (x6_2.length : Int) := of_decide_eq_true (by first | (with_reducible assumption) | assumption); obtain ⟨ad345, e345, hx345_0⟩ := ax (aw HO_6.out).2.2 x9_2 p345 q345; obtain rfl : (⟨go12, 0, none⟩ : Addr) = ad345 := (by injection e345); (first | simp only [add_plain] at hx345_0 | simp only [add_at] at hx345_0 | simp only [Addr.add, Nat.zero_add] at hx345_0 | skip); replace p345 := eq_true p345; replace q345 := eq_true q345; have p346 : 0 ≤ (x8_1 : Int) := of_decide_eq_true (by first | (with_reducible assumption) | assumption); have q346 : x8_1 < (x6_2.length : Int) := of_decide_eq_true (by first | (with_reducible assumption) | assumption); obtain ⟨ad346, e346, hx346_0⟩ := ax (aw HO_6.out).2.2 x8_1 p346 q346; obtain rfl : (⟨go12, 0, none⟩ : Addr) = ad346 := (by injection e346); (first | simp only [add_plain] at hx346_0 | simp only [add_at] at hx346_0 | simp only [Addr.add, Nat.zero_add] at hx346_0 | skip); replace p346 := eq_true p346; replace q346 := eq_true q346; refine start_ (n := 17) (S := fun w' => w'.cell? ⟨go12, (x9_2).toNat, none⟩ = some (.int .i64 (rd x6_2 x9_2)) ∧ w'.cell? ⟨go12, (x8_1).toNat, none⟩ = some (.int .i64 (rd x6_2 x8_1))) (ds := []) #[false, false, false, false, false, false, false, false, false, false, false, false, false, false, false, false, false] (by kernel_rfl) rfl rfl ⟨hx345_0, hx346_0⟩ (fun hHeld => ?_); refine with_tabW spec_l07Fewest.tab11 spec_l07Fewest.bits11 (fun HT_ HW_ => ?_); generalize wr.drew = w34 at HO_6 HO_7 HB hx345_0 hx346_0 hHeld ⊢; refine pure_ (i := 0) (N := some 35) (v := ?_) (a' := ?_) #[true, false, false, false, false, false, false, false, false, false, false, false, false, false, false, false, false] rfl rfl (any_of HT_.out (by kernel_rfl)) (fun _ _ _ h => h) (Or.inl ⟨by rfl, ?_⟩) ?_ ?_; rotate_left
                ·intro w'; go_simp; (with_reducible rfl)
                rotate_left
                ·simp only [Act.put, a7, a8, a9, i64_w, i32_w]; rfl
                refine pure_ (i := 1) (N := some 36) (v := ?_) (a' := ?_) #[true, true, false, false, false, false, false, false, false, false, false, false, false, false, false, false, false] rfl rfl (any_of HT_.out (by kernel_rfl)) (fun _ _ _ h => h) (Or.inl ⟨by rfl, ?_⟩) ?_ ?_; rotate_left
                ·intro w'; go_simp; (with_reducible rfl)
                rotate_left
                ·simp only [Act.put, a7, a8, a9, i64_w, i32_w]; rfl
                refine pure_ (i := 2) (N := some 37) (v := ?_) (a' := ?_) #[true, true, true, false, false, false, false, false, false, false, false, false, false, false, false, false, false] rfl rfl (any_of HT_.out (by kernel_rfl)) (fun _ _ _ h => h) (Or.inl ⟨by rfl, ?_⟩) ?_ ?_; rotate_left
                ·intro w'; go_simp; (with_reducible rfl)
                rotate_left
                ·simp only [Act.put, a7, a8, a9, i64_w, i32_w]; rfl
                refine pure_ (i := 5) (N := some 40) (v := ?_) (a' := ?_) #[true, true, true, false, false, true, false, false, false, false, false, false, false, false, false, false, false] rfl rfl (any_of HT_.out (by kernel_rfl)) (fun _ _ _ h => h) (Or.inl ⟨by rfl, ?_⟩) ?_ ?_; rotate_left
                ·intro w'; go_simp; (with_reducible rfl)
                rotate_left
                ·simp only [Act.put, a7, a8, a9, i64_w, i32_w]; rfl
                refine pure_ (i := 6) (N := some 41) (v := ?_) (a' := ?_) #[true, true, true, false, false, true, true, false, false, false, false, false, false, false, false, false, false] rfl rfl (any_of HT_.out (by kernel_rfl)) (fun _ _ _ h => h) (Or.inl ⟨by rfl, ?_⟩) ?_ ?_; rotate_left
                ·intro w'; go_simp; (with_reducible rfl)
                rotate_left
                ·simp only [Act.put, a7, a8, a9, i64_w, i32_w]; rfl
                refine pure_ (i := 7) (N := some 42) (v := ?_) (a' := ?_) #[true, true, true, false, false, true, true, true, false, false, false, false, false, false, false, false, false] rfl rfl (any_of HT_.out (by kernel_rfl)) (fun _ _ _ h => h) (Or.inl ⟨by rfl, ?_⟩) ?_ ?_; rotate_left
                ·intro w'; go_simp; (with_reducible rfl)
                rotate_left
                ·simp only [Act.put, a7, a8, a9, i64_w, i32_w]; rfl
                refine take_ (i := 3) (N := some 38) (v := ?_) (a' := ?_) #[true, true, true, true, false, true, true, true, false, false, false, false, false, false, false, false, false] rfl rfl (take_ofW HT_.out HW_.out (by kernel_rfl)) (fun _ _ _ h => h) (Or.inl ⟨by rfl, ?_⟩) hHeld ?_ ?_; rotate_left
                ·rintro w' ⟨s0, s1⟩; go_simp; (with_reducible rfl)
                rotate_left
                ·simp only [Act.put, a7, a8, a9, i64_w, i32_w]; rfl
                refine pure_ (i := 4) (N := some 39) (v := ?_) (a' := ?_) #[true, true, true, true, true, true, true, true, false, false, false, false, false, false, false, false, false] rfl rfl (any_of HT_.out (by kernel_rfl)) (fun _ _ _ h => h) (Or.inl ⟨by rfl, ?_⟩) ?_ ?_; rotate_left
                ·intro w'; go_simp; (with_reducible rfl)
                rotate_left
                ·simp only [Act.put, a7, a8, a9, i64_w, i32_w]; rfl
                refine take_ (i := 8) (N := some 43) (v := ?_) (a' := ?_) #[true, true, true, true, true, true, true, true, true, false, false, false, false, false, false, false, false] rfl rfl (take_ofW HT_.out HW_.out (by kernel_rfl)) (fun _ _ _ h => h) (Or.inl ⟨by rfl, ?_⟩) hHeld ?_ ?_; rotate_left
                ·rintro w' ⟨s0, s1⟩; go_simp; (with_reducible rfl)
                rotate_left
                ·simp only [Act.put, a7, a8, a9, i64_w, i32_w]; rfl
                refine pure_ (i := 9) (N := some 44) (v := ?_) (a' := ?_) #[true, true, true, true, true, true, true, true, true, true, false, false, false, false, false, false, false] rfl rfl (any_of HT_.out (by kernel_rfl)) (fun _ _ _ h => h) (Or.inl ⟨by rfl, ?_⟩) ?_ ?_; rotate_left
                ·intro w'; go_simp; (with_reducible rfl)
                rotate_left
                ·simp only [Act.put, a7, a8, a9, i64_w, i32_w]; rfl
                refine pure_ (i := 10) (N := some 45) (v := ?_) (a' := ?_) #[true, true, true, true, true, true, true, true, true, true, true, false, false, false, false, false, false] rfl rfl (any_of HT_.out (by kernel_rfl)) (fun _ _ _ h => h) (Or.inl ⟨by rfl, ?_⟩) ?_ ?_; rotate_left
                ·intro w'; go_simp; (with_reducible rfl)
                rotate_left
                ·simp only [Act.put, a7, a8, a9, i64_w, i32_w]; rfl
                refine pure_ (i := 11) (N := some 46) (v := undef) (a' := ?_) #[true, true, true, true, true, true, true, true, true, true, true, true, false, false, false, false, false] rfl rfl (any_of HT_.out (by kernel_rfl)) (fun _ _ _ h => h) (Or.inr ⟨by rfl, rfl⟩) ?_ ?_; rotate_left
                ·simp only [Act.put, a7, a8, a9, i64_w, i32_w]; rfl
                refine pure_ (i := 12) (N := some 47) (v := undef) (a' := ?_) #[true, true, true, true, true, true, true, true, true, true, true, true, true, false, false, false, false] rfl rfl (any_of HT_.out (by kernel_rfl)) (fun _ _ _ h => h) (Or.inr ⟨by rfl, rfl⟩) ?_ ?_; rotate_left
                ·simp only [Act.put, a7, a8, a9, i64_w, i32_w]; rfl
                refine pure_ (i := 13) (N := some 48) (v := undef) (a' := ?_) #[true, true, true, true, true, true, true, true, true, true, true, true, true, true, false, false, false] rfl rfl (any_of HT_.out (by kernel_rfl)) (fun _ _ _ h => h) (Or.inr ⟨by rfl, rfl⟩) ?_ ?_; rotate_left
                ·simp only [Act.put, a7, a8, a9, i64_w, i32_w]; rfl
                refine pure_ (i := 14) (N := some 49) (v := undef) (a' := ?_) #[true, true, true, true, true, true, true, true, true, true, true, true, true, true, true, false, false] rfl rfl (any_of HT_.out (by kernel_rfl)) (fun _ _ _ h => h) (Or.inr ⟨by rfl, rfl⟩) ?_ ?_; rotate_left
                ·simp only [Act.put, a7, a8, a9, i64_w, i32_w]; rfl
                refine pure_ (i := 15) (N := some 50) (v := undef) (a' := ?_) #[true, true, true, true, true, true, true, true, true, true, true, true, true, true, true, true, false] rfl rfl (any_of HT_.out (by kernel_rfl)) (fun _ _ _ h => h) (Or.inr ⟨by rfl, rfl⟩) ?_ ?_; rotate_left
                ·simp only [Act.put, a7, a8, a9, i64_w, i32_w]; rfl
                refine pure_ (i := 16) (N := some 51) (v := ?_) (a' := ?_) #[true, true, true, true, true, true, true, true, true, true, true, true, true, true, true, true, true] rfl rfl (any_of HT_.out (by kernel_rfl)) (fun _ _ _ h => h) (Or.inl ⟨by rfl, ?_⟩) ?_ ?_; rotate_left
                ·intro w'; go_simp; (with_reducible rfl)
                rotate_left
                ·simp only [Act.put, a7, a8, a9, i64_w, i32_w]; rfl
                refine done_ (done_of HT_.out (by kernel_rfl)) ?_; (try go_wp2); (try simp only [← hl6_2]); go_roundg k2
                case measure => have := HK1.out; have := HK2.out; omega
                case rel => exact ⟨(x6_2), (x7_2), (wrap64 (x9_2 + 1)), (by first | rfl | (simp; done) | (simp [*]; done)), H', ⟨by have := HK1.out; have := HK2.out; omega⟩, ⟨by (try simp only [hl6_2]); (with_reducible repeat (first | apply ah | apply ag | apply ai)); exact HO_6.out⟩, ⟨by (try simp only [hl6_2]); (with_reducible repeat (first | apply ah | apply ag | apply ai)); exact HO_7.out⟩, ⟨by repeat (first | (with_reducible first | exact HB.out | apply ae | apply ab | apply ac) | exact HB.out)⟩⟩
              ·rw [if_neg c19] at H; exact absurd H (by simp)
             ·rw [if_neg c18] at H; exact absurd H (by simp)
            ·rw [if_neg c17] at H; exact absurd H (by simp)
           ·rw [if_neg c16] at H; exact absurd H (by simp)
          ·rw [if_neg c15] at H; have c15b0 : decide (x9_2 < (l0.length : Int)) = false := decide_eq_false c15; clear c15; have H' := aa H; clear H; go_wp2; (try simp only [← hl6_2]); go_roundg k2
           case measure => have := HK1.out; have := HK2.out; omega
           case rel => exact ⟨(x6_2), (x7_2), (wrap64 (x8_1 - 1)), (by first | rfl | (simp; done) | (simp [*]; done)), H', ⟨by have := HK1.out; have := HK2.out; omega⟩, ⟨by (try simp only [hl6_2]); (with_reducible repeat (first | apply ah | apply ag | apply ai)); exact HO_6.out⟩, ⟨by (try simp only [hl6_2]); (with_reducible repeat (first | apply ah | apply ag | apply ai)); exact HO_7.out⟩, ⟨by repeat (first | (with_reducible first | exact HB.out | apply ae | apply ab | apply ac) | exact HB.out)⟩⟩
       ·rw [if_neg c11] at H; exact absurd H (by simp)
      ·rw [if_neg c10] at H; exact absurd H (by simp)
     ·rw [if_neg c9] at H; have c9b0 : decide (0 ≤ x8_1) = false := decide_eq_false c9; clear c9; obtain ⟨y351, hy351⟩ : ∃ y_ : List Int, y_ = (([0] : List Int)) := ⟨_, rfl⟩; (replace H : (spec_l07Fewest.l2 k1 (l0.length : Int) x7_1 y351 0) = some r := by first | (rw [hy351]; with_reducible exact H) | (have H2_ := (b6 _ _).symm.trans H; rw [hy351]; with_reducible exact H2_) | (have H2_ := (b6 _ _).symm.trans H; with_reducible exact H2_) | with_reducible exact H | (rw [hy351]; exact H) | exact H); have Ny351 := aa hy351; clear hy351; have H' := aa H; clear H
      go_wp2_with (first | ((with_reducible refine az (N := 64) rfl ?_); refine Kd.R_lit (Kd.int .i64) _ 2 ?hg (N := 64) ?hd (xs := ([0] : List Int)) (inner := [.int .i64 0]) (ok := fun _ => True) (okp := fun _ => True) ?hr ?hp (fun _ hk => hk) trivial (Below.refl _ _) (Nat.le_refl _) (by simp) ?_; (case hd => rfl); (case hg => rfl); (case hr => first | (go_simp; done) | (go_simp; rfl)); (case hp => exact (Reps.one (show Kd.M (Kd.int .i64) _ _ _ 0 [.int .i64 0] from rfl) (Reps.none _ _))); intro v352 w35 ho36 hb hg_ hnew_; clear hg_ hnew_; (first | rw [← Ny351.out] at ho36 | (simp only [Int.reduceToNat] at ho36; rw [← Ny351.out] at ho36)); have n0_ := aa (Kd.R_elder' (by (with_reducible repeat (first | apply ah | apply ag | apply ai)); exact HO_6.out) (Kd.R_base ho36) hb); have n1_ := aa (Kd.R_elder' (by (with_reducible repeat (first | apply ah | apply ag | apply ai)); exact HO_7.out) (Kd.R_base ho36) hb); have n2_ := aa (bd (Kd.R_new' (Kd.R_new' ho36 (Kd.R_lt (by (with_reducible repeat (first | apply ah | apply ag | apply ai)); exact HO_6.out))) (Kd.R_lt (by (with_reducible repeat (first | apply ah | apply ag | apply ai)); exact HO_7.out))) (al (by repeat (first | (with_reducible first | exact HB.out | apply ae | apply ab | apply ac) | exact HB.out)))); have n3_ := aa (af (by repeat (first | (with_reducible first | exact HB.out | apply ae | apply ab | apply ac) | exact HB.out)) hb); clear HO_6; clear HO_7; clear HB; have HO_6 := n0_; have HO_7 := n1_; have HO353 := n2_; have HB := n3_; clear n0_ n1_ n2_ n3_; clear hb ho36))
      go_loopg [10, 11] k1 (fun kq v10 v11 w' => ∃ (x10_2 : List Int) (x11_2 : Int), v11 = .int .i64 x11_2 ∧ Aside0 (spec_l07Fewest.l2 kq (l0.length : Int) x7_1 x10_2 x11_2 = some r) ∧ Aside0 (kq ≤ k1) ∧ Aside0 (Kd.R (Kd.int .i64) 2 w' w.heap.size (fun k_ => some k_ ≠ (v10 : Value).ownBlock) v342 x7_1) ∧ Aside0 (Kd.R (Kd.int .i64) 2 w' w.heap.size (fun k_ => some k_ ≠ (v342 : Value).ownBlock) v10 x10_2) ∧ Aside0 (Below w.heap.size w w'))
      case atStart => exact ⟨(y351), (0), (by first | rfl | (simp; done) | (simp [*]; done)), H', ⟨Nat.le_refl _⟩, ⟨by (with_reducible repeat (first | apply ah | apply ag | apply ai)); exact bc HO_7.out (fun _ hk => hk.2)⟩, ⟨by (with_reducible repeat (first | apply ah | apply ag | apply ai)); exact bc HO353.out (fun _ hk => hk.2)⟩, ⟨by repeat (first | (with_reducible first | exact HB.out | apply ae | apply ab | apply ac) | exact HB.out)⟩⟩
      case round =>
       clear H'; (try clear c1); (try clear c2); (try clear p2); (try clear q2); (try clear hx2); (try clear hf2); (try clear p3); (try clear q3); (try clear hx3); (try clear c6); (try clear p6); (try clear c9); (try clear c9b0); (try clear c10); (try clear c11); (try clear c15); (try clear c15b0); (try clear c16); (try clear c17); (try clear c18); (try clear c19); (try clear c20); (try clear c20b0); (try clear c22); (try clear p23); (try clear q23); (try clear hx23); (try clear hf23); (try clear c24); (try clear p25); (try clear q25); (try clear hx25); (try clear hf25); (try clear p34); (try clear q34); (try clear hx34); (try clear hx23_0); (try clear hx25_0); (try clear hx345_0); (try clear hx346_0); (try clear hx348_0); (try clear p23); (try clear p25); (try clear p345); (try clear p346); (try clear p348); (try clear q23); (try clear q25); (try clear q345); (try clear q346); (try clear q348); obtain ⟨x10_2, x11_2, rfl, HA, HK2, HO_7, HO_10, HB⟩ := hrel
       cases gk with
       | zero => exact absurd HA.out (by simp [spec_l07Fewest.l2])
       | succ k2 =>
        have H := HA.out; clear HA; simp only [spec_l07Fewest.l2] at H; by_cases c37 : x11_2 < (wrap64 ((l0.length : Int) - 1))
        ·rw [if_pos c37] at H; have c37b0 : decide (x11_2 < (wrap64 ((l0.length : Int) - 1))) = true := decide_eq_true c37; clear c37; by_cases c38 : 0 ≤ x11_2
         ·rw [if_pos c38] at H; have c38b0 : decide (0 ≤ x11_2) = true := decide_eq_true c38; clear c38; by_cases c39 : x11_2 < (x7_1.length : Int)
          ·rw [if_pos c39] at H; have c39b0 : decide (x11_2 < (x7_1.length : Int)) = true := decide_eq_true c39; clear c39; by_cases c40 : x10_2.length < 17592186044416
           ·rw [if_pos c40] at H; have LMc40 := aa c40; clear c40; obtain ⟨y355, hy355⟩ : ∃ y_ : List Int, y_ = (x10_2 ++ [rd x7_1 x11_2]) := ⟨_, rfl⟩; (replace H : (spec_l07Fewest.l2 k2 (l0.length : Int) x7_1 y355 (rd x7_1 x11_2)) = some r := by first | (rw [hy355]; with_reducible exact H) | (have H2_ := (b6 _ _).symm.trans H; rw [hy355]; with_reducible exact H2_) | (have H2_ := (b6 _ _).symm.trans H; with_reducible exact H2_) | with_reducible exact H | (rw [hy355]; exact H) | exact H); have Ny355 := aa hy355; clear hy355; have H' := aa H; clear H; obtain ⟨Ao41, co41, eo41⟩ := Kd.R_slice HO_7.out; subst eo41; have p354 : 0 ≤ (x11_2 : Int) := of_decide_eq_true (by first | (with_reducible assumption) | assumption); have q354 : x11_2 < (x7_1.length : Int) := of_decide_eq_true (by first | (with_reducible assumption) | assumption); obtain ⟨ad354, e354, hx354_0⟩ := ax (aw HO_7.out).2.2 x11_2 p354 q354
            cases e354
            replace p354 := eq_true p354; replace q354 := eq_true q354
            go_wp2_with (first | ((with_reducible refine gate_builtin (b := .append) (xs := #[.tmp 73, .tmp 75]) rfl ?_); at_builtin; refine Kd.R_append (Kd.int .i64) (w0 := w) w.heap.size rfl (.tmp 73) (.tmp 75) 27 2 (.int .i64 0) 8 rfl Tryz.underlying27 info2 rfl (by decide) (by omega) u10 x10_2 (rd x7_1 x11_2) [.int .i64 (rd x7_1 x11_2)] (fun k_ => some k_ ≠ (.slice (some ad354) x7_1.length co41 : Value).ownBlock) (fun _ => False) rfl rfl ?aP (fun _ hk => hk.elim) ?aF ?aO ?aB ?aS ?aL ?_; (case aP => exact rfl); (case aB => exact (by repeat (first | (with_reducible first | exact HB.out | apply ae | apply ab | apply ac) | exact HB.out))); (case aF => exact (fun k_ hk => Kd.fresh' (Kd.R_lt (by (with_reducible repeat (first | apply ah | apply ag | apply ai)); exact HO_7.out)) k_ hk)); (case aO => exact (by (with_reducible repeat (first | apply ah | apply ag | apply ai)); exact HO_10.out)); (case aS => exact (al (by repeat (first | (with_reducible first | exact HB.out | apply ae | apply ab | apply ac) | exact HB.out)))); (case aL => have := LMc40.out; omega); intro v356 w42 ho hb hg hat; rw [← Ny355.out] at ho; have n0_ := aa (Kd.R_after (ok := (fun _ => True)) (by (with_reducible repeat (first | apply ah | apply ag | apply ai)); exact bc HO_7.out (fun _ hk => ⟨trivial, hk⟩)) hg hat); have n1_ := aa (hb); have n2_ := aa (ho); clear HO_7; clear HB; clear HO_10; have HO_7 := n0_; have HB := n1_; have HO357 := n2_; clear n0_ n1_ n2_; clear ho hb hg hat))
            go_roundg k2
            case measure => have := HK1.out; have := HK2.out; omega
            case rel => exact ⟨(y355), (rd x7_1 x11_2), (by first | rfl | (simp; done) | (simp [*]; done)), H', ⟨by have := HK1.out; have := HK2.out; omega⟩, ⟨by (with_reducible repeat (first | apply ah | apply ag | apply ai)); exact bc HO_7.out (fun _ hk => hk.2)⟩, ⟨by (with_reducible repeat (first | apply ah | apply ag | apply ai)); exact HO357.out⟩, ⟨by repeat (first | (with_reducible first | exact HB.out | apply ae | apply ab | apply ac) | exact HB.out)⟩⟩
           ·rw [if_neg c40] at H; exact absurd H (by simp)
          ·rw [if_neg c39] at H; exact absurd H (by simp)
         ·rw [if_neg c38] at H; exact absurd H (by simp)
        ·rw [if_neg c37] at H; have c37b0 : decide (x11_2 < (wrap64 ((l0.length : Int) - 1))) = false := decide_eq_false c37; clear c37; obtain rfl := Option.some.inj H; go_wp2; go_ret; exact ⟨_, by first | rfl | (simp [errW_none, errW_some] <;> rfl) | (simp [*, errW_none, errW_some] <;> rfl), by (with_reducible repeat (first | apply ah | apply ag | apply ai)); exact bc HO_10.out (fun _ hk => trivial), by repeat (first | (with_reducible first | exact HB.out | apply ae | apply ab | apply ac) | exact HB.out)⟩
  ·rw [if_neg c4] at H; exact absurd H (by simp)
 ·rw [if_neg c3] at H; exact absurd H (by simp)
end Go.Proofs.YtmgljagkmaoopaaGreat.QFnTopOfAll
