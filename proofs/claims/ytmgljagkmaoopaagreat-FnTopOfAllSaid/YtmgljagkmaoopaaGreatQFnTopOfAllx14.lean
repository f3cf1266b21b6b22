/- Walks of the Go functions that the law FnTopOfAll reaches: written by a program of this session. -/
import Derived.Test.YtmgljagkmaoopaaGreatQFnTopOfAllx0
import Derived.Test.YtmgljagkmaoopaaGreatQFnTopOfAllx3
import Derived.Test.YtmgljagkmaoopaaGreatQFnTopOfAllx11
import Derived.Test.YtmgljagkmaoopaaGreatQFnTopOfAllx13
namespace Go.Proofs.YtmgljagkmaoopaaGreat.QFnTopOfAll
open Go.RowKit Go.Proofs.YtmgljagkmaoopaaGreatW.PrintWords Go.Proofs.YtmgljagkmaoopaaGreatW.PrintLast Go.Proofs.YtmgljagkmaoopaaGreatW.PrintMore
attribute [local go_sem] max2_int min2_int max_two min_two max_three min_three max_four min_four
open Go.Proofs.YtmgljagkmaoopaaGreatW.PrintWords renaming below_alloc → ae, below_drew1 → ac, below_set → ak, below_size → al, below_step → af, blk_alloc → am, blk_below → ba, blk_cell → ap, blk_drew → aq, blk_drewN → an, blk_frozen → ao, box_event → bb, gate_dst → az, pw_below_drewN → ab
open Go.Proofs.YtmgljagkmaoopaaGreatW.PrintWords.Aside0 renaming mk → aa
open Go.Proofs.YtmgljagkmaoopaaGreatW.PrintWords.Kd renaming C_alloc → ar, C_drew → av, C_drewN → au
open Go.World renaming drewN_drewN → aj
open Option renaming bind_eq_some_iff → bf
open List renaming length_drop → b0, length_take → b2, map_cons → b4, map_nil → b5, map_toArray → b3
set_option linter.unusedVariables false
set_option linter.unusedSimpArgs false
def spec_CountColours.f (k : Nat) (a0 : Int) (l1 : List (S82)) (a2 : Int) : Option (Int × Int) := (spec_l09Code.f k a0 l1 a2).bind fun t273 => (if t273 = 0 then ((spec_l09Count.f k a0 l1 a2).bind fun t274 => (some (t274, 0))) else (some (0, t273)))
theorem spec_CountColours.mono : ∀ a0 a1 a2 k, LeO (spec_CountColours.f k a0 a1 a2) (spec_CountColours.f (k + 1) a0 a1 a2) := by
 intro a0 a1 a2 k; unfold spec_CountColours.f
 repeat' first
   | (with_reducible exact spec_l09Code.mono _ _ _ _)
   | (with_reducible exact spec_l09Count.mono _ _ _ _)
   | (with_reducible exact LeO.refl _)
   | (with_reducible exact LeO.none _)
   | (with_reducible refine LeO.ite ?_ ?_)
   | (with_reducible refine LeO.bind ?_ (fun _ => ?_))
   | exact spec_l09Code.mono _ _ _ _
   | exact spec_l09Count.mono _ _ _ _
   | exact LeO.none _
   | refine LeO.ite ?_ ?_
   | refine LeO.bind ?_ (fun _ => ?_)
set_option maxHeartbeats 8000000 in
set_option maxRecDepth 100000 in
theorem spec_CountColours.calls (k : Nat) (a0 : Int) (A1 : Option Addr) (c1 : Nat) (l1 : List (S82)) (a2 : Int) (r1 : Int) (r2 : Int) (w : World) (hr1 : Kd.C k82 w A1 l1.length l1) (hc1 : l1.length ≤ c1) (h : spec_CountColours.f k a0 l1 a2 = some (r1, r2)) :
  Calls Tryz.prog 15 #[.int .i64 a0, .slice A1 l1.length c1, .int .i64 a2] w fun e w' => e = .returned (.tuple #[.int .i64 r1, .int .i64 r2]) ∧ Below w.heap.size w w' := by
 have HR1 := aa hr1; have HC1 := aa hc1; clear hr1 hc1; have HB := aa (Below.refl w.heap.size w); have H : ((spec_l09Code.f k a0 l1 a2).bind fun t273 => (if t273 = 0 then ((spec_l09Count.f k a0 l1 a2).bind fun t274 => (some (t274, 0))) else (some (0, t273)))) = some (r1, r2) := h; clear h; replace H := bf.mp H; obtain ⟨t273, A40, H⟩ := H; (try dsimp only at H); have A4 := aa A40; clear A40; by_cases c5 : t273 = 0
 ·rw [if_pos c5] at H; have c5b0 : (t273 == 0) = true := beq_iff_eq.mpr c5; have c5b1 : (t273 != 0) = false := bne_eq_false_iff_eq.mpr c5; clear c5; replace H := bf.mp H; obtain ⟨t274, A60, H⟩ := H; replace H : (some (t274, 0)) = some (r1, r2) := H; have A6 := aa A60; clear A60; simp only [Option.some.injEq, Prod.mk.injEq] at H; obtain ⟨rfl, rfl⟩ := H; go_enter Tryz.func15, Tryz.ntmps15
  go_wp2_with (first | ((with_reducible refine gate_callee (f := 45) rfl ?_); refine goesL_ (some 12) rfl rfl Tryz.func45 (by kernel_rfl) rfl #[.int .i64 a0, .slice A1 l1.length c1, .int .i64 a2] rfl (by (try simp only [b3, b4, b5]); first | done | rfl | (simp only [b0, b2]; rfl)) ?_; (with_reducible refine (spec_l09Code.calls k a0 _ _ l1 a2 t273 _ ?side1 ?side2 A4.out).mono ?_); (case side1 => repeat (first | exact HR1.out | (with_reducible refine ar ?_ _) | (with_reducible refine au ?_ _) | (with_reducible refine av ?_))); (case side2 => exact HC1.out); rintro e w' ⟨rfl, ⟨nd, rfl⟩⟩; refine ⟨_, rfl, ?_⟩) | ((with_reducible refine gate_callee (f := 46) rfl ?_); refine goesL_ (some 19) rfl rfl Tryz.func46 (by kernel_rfl) rfl #[.int .i64 a0, .slice A1 l1.length c1, .int .i64 a2] rfl (by (try simp only [b3, b4, b5]); first | done | rfl | (simp only [b0, b2]; rfl)) ?_; (with_reducible refine (spec_l09Count.calls k a0 _ _ l1 a2 t274 _ ?side1 ?side2 A6.out).mono ?_); (case side1 => repeat (first | exact HR1.out | (with_reducible refine ar ?_ _) | (with_reducible refine au ?_ _) | (with_reducible refine av ?_))); (case side2 => exact HC1.out); rintro e w7 ⟨rfl, hb⟩; refine ⟨_, rfl, ?_⟩; have n0_ := aa (af (by repeat (first | (with_reducible first | exact HB.out | apply ae | apply ab | apply ac) | exact HB.out)) hb); clear HB; have HB := n0_; clear n0_; (try clear hb); (try clear hb2); (try clear hk); (try clear hi)))
  go_ret2; exact ⟨by first | rfl | (simp [errW_none, errW_some] <;> rfl) | (simp [*, errW_none, errW_some] <;> rfl), by repeat (first | (with_reducible first | exact HB.out | apply ae | apply ab | apply ac) | exact HB.out)⟩
 ·rw [if_neg c5] at H; have c5b0 : (t273 == 0) = false := beq_eq_false_iff_ne.mpr c5; have c5b1 : (t273 != 0) = true := bne_iff_ne.mpr c5; simp only [Option.some.injEq, Prod.mk.injEq] at H; obtain ⟨rfl, rfl⟩ := H; go_enter Tryz.func15, Tryz.ntmps15
  go_wp2_with (first | ((with_reducible refine gate_callee (f := 45) rfl ?_); refine goesL_ (some 12) rfl rfl Tryz.func45 (by kernel_rfl) rfl #[.int .i64 a0, .slice A1 l1.length c1, .int .i64 a2] rfl (by (try simp only [b3, b4, b5]); first | done | rfl | (simp only [b0, b2]; rfl)) ?_; (with_reducible refine (spec_l09Code.calls k a0 _ _ l1 a2 t273 _ ?side1 ?side2 A4.out).mono ?_); (case side1 => repeat (first | exact HR1.out | (with_reducible refine ar ?_ _) | (with_reducible refine au ?_ _) | (with_reducible refine av ?_))); (case side2 => exact HC1.out); rintro e w' ⟨rfl, ⟨nd, rfl⟩⟩; refine ⟨_, rfl, ?_⟩))
  go_ret2; exact ⟨by first | rfl | (simp [errW_none, errW_some] <;> rfl) | (simp [*, errW_none, errW_some] <;> rfl), by repeat (first | (with_reducible first | exact HB.out | apply ae | apply ab | apply ac) | exact HB.out)⟩
def impl_isLat.f (a0 : Int) : Option (Bool) := (impl_within.f a0 (-324000) 324000).bind fun t275 => (some t275)
set_option maxHeartbeats 8000000 in
set_option maxRecDepth 100000 in
theorem impl_isLat.calls (a0 : Int) (r : Bool) (w : World) (h : impl_isLat.f a0 = some r) :
  Calls Tryz.prog 78 #[.int .i64 a0] w fun e w' => e = .returned (.bool r) ∧ Drawn0 w w' := by
 have H : ((impl_within.f a0 (-324000) 324000).bind fun t275 => (some t275)) = some r := h; clear h; replace H := bf.mp H; obtain ⟨t275, A20, H⟩ := H; replace H : (some t275) = some r := H; have A2 := aa A20; clear A20; obtain rfl := Option.some.inj H; go_enter Tryz.func78, Tryz.ntmps78
 go_wp2_with (first | ((with_reducible refine gate_callee (f := 49) rfl ?_); refine goesL_ (some 4) rfl rfl Tryz.func49 (by kernel_rfl) rfl #[.int .i64 a0, .int .i64 (-324000), .int .i64 324000] rfl (by (try simp only [b3, b4, b5]); first | done | rfl | (simp only [b0, b2]; rfl)) ?_; (with_reducible refine (impl_within.calls a0 (-324000) 324000 t275 _ A2.out).mono ?_); rintro e w' ⟨rfl, ⟨nd, rfl⟩⟩; refine ⟨_, rfl, ?_⟩))
 go_ret; exact ⟨by first | rfl | (simp; done) | (simp [*]; done), by repeat (first | exact Drawn0.refl _ | apply Drawn0.step)⟩
def impl_around.f (a0 : Int) : Option (Int) := some (Int.tmod (wrap64 ((Int.tmod a0 1296000) + 1296000)) 1296000)
set_option maxHeartbeats 8000000 in
set_option maxRecDepth 100000 in
theorem impl_around.calls (a0 : Int) (r : Int) (w : World) (h : impl_around.f a0 = some r) :
  Calls Tryz.prog 112 #[.int .i64 a0] w fun e w' => e = .returned (.int .i64 r) ∧ Drawn0 w w' := by
 have H : (some (Int.tmod (wrap64 ((Int.tmod a0 1296000) + 1296000)) 1296000)) = some r := h; clear h; obtain rfl := Option.some.inj H; go_enter Tryz.func112, Tryz.ntmps112; go_wp2; go_ret; exact ⟨by first | rfl | (simp; done) | (simp [*]; done), by repeat (first | exact Drawn0.refl _ | apply Drawn0.step)⟩
def impl_floorDiv.f (a0 : Int) (a1 : Int) : Option (Int) := if a1 = 0 then (none) else (if (Int.tmod a0 a1) < 0 then (some (wrap64 ((wrap64 (Int.tdiv a0 a1)) - 1))) else (some (wrap64 (Int.tdiv a0 a1))))
set_option maxHeartbeats 8000000 in
set_option maxRecDepth 100000 in
theorem impl_floorDiv.calls (a0 : Int) (a1 : Int) (r : Int) (w : World) (h : impl_floorDiv.f a0 a1 = some r) :
  Calls Tryz.prog 111 #[.int .i64 a0, .int .i64 a1] w fun e w' => e = .returned (.int .i64 r) ∧ Drawn0 w w' := by
 have H : (if a1 = 0 then (none) else (if (Int.tmod a0 a1) < 0 then (some (wrap64 ((wrap64 (Int.tdiv a0 a1)) - 1))) else (some (wrap64 (Int.tdiv a0 a1))))) = some r := h; clear h; by_cases c3 : a1 = 0
 ·rw [if_pos c3] at H; exact absurd H (by simp)
 ·rw [if_neg c3] at H; have c3b0 : (a1 == 0) = false := beq_eq_false_iff_ne.mpr c3; have c3b1 : (a1 != 0) = true := bne_iff_ne.mpr c3; by_cases c4 : (Int.tmod a0 a1) < 0
  ·rw [if_pos c4] at H; have c4b0 : decide ((Int.tmod a0 a1) < 0) = true := decide_eq_true c4; clear c4; obtain rfl := Option.some.inj H; go_enter Tryz.func111, Tryz.ntmps111; go_wp2; go_ret; exact ⟨by first | rfl | (simp; done) | (simp [*]; done), by repeat (first | exact Drawn0.refl _ | apply Drawn0.step)⟩
  ·rw [if_neg c4] at H; have c4b0 : decide ((Int.tmod a0 a1) < 0) = false := decide_eq_false c4; clear c4; obtain rfl := Option.some.inj H; go_enter Tryz.func111, Tryz.ntmps111; go_wp2; go_ret; exact ⟨by first | rfl | (simp; done) | (simp [*]; done), by repeat (first | exact Drawn0.refl _ | apply Drawn0.step)⟩
def impl_nearest.f (a0 : Int) (a1 : Int) : Option (Int) := (impl_floorDiv.f (wrap64 ((wrap64 (2 * a0)) + a1)) (wrap64 (2 * a1))).bind fun t276 => (some t276)
set_option maxHeartbeats 8000000 in
set_option maxRecDepth 100000 in
theorem impl_nearest.calls (a0 : Int) (a1 : Int) (r : Int) (w : World) (h : impl_nearest.f a0 a1 = some r) :
  Calls Tryz.prog 116 #[.int .i64 a0, .int .i64 a1] w fun e w' => e = .returned (.int .i64 r) ∧ Drawn0 w w' := by
 have H : ((impl_floorDiv.f (wrap64 ((wrap64 (2 * a0)) + a1)) (wrap64 (2 * a1))).bind fun t276 => (some t276)) = some r := h; clear h; replace H := bf.mp H; obtain ⟨t276, A30, H⟩ := H; replace H : (some t276) = some r := H; have A3 := aa A30; clear A30; obtain rfl := Option.some.inj H; go_enter Tryz.func116, Tryz.ntmps116
 go_wp2_with (first | ((with_reducible refine gate_callee (f := 111) rfl ?_); refine goesL_ (some 11) rfl rfl Tryz.func111 (by kernel_rfl) rfl #[.int .i64 (wrap64 ((wrap64 (2 * a0)) + a1)), .int .i64 (wrap64 (2 * a1))] rfl (by (try simp only [b3, b4, b5]); first | done | rfl | (simp only [b0, b2]; rfl)) ?_; (with_reducible refine (impl_floorDiv.calls (wrap64 ((wrap64 (2 * a0)) + a1)) (wrap64 (2 * a1)) t276 _ A3.out).mono ?_); rintro e w' ⟨rfl, ⟨nd, rfl⟩⟩; refine ⟨_, rfl, ?_⟩))
 go_ret; exact ⟨by first | rfl | (simp; done) | (simp [*]; done), by repeat (first | exact Drawn0.refl _ | apply Drawn0.step)⟩
def impl_sine.f : Nat → Int → Option (Int)
 | 0, _ => none
 | k + 1, a0 => (impl_around.f a0).bind fun t277 => (if t277 ≥ 648000 then ((impl_sine.f k (wrap64 (t277 - 648000))).bind fun t278 => (some (wrap64 (-t278)))) else ((impl_nearest.f (wrap64 (16000000 * (wrap64 (t277 * (wrap64 (648000 - t277)))))) (wrap64 (2099520000000 - (wrap64 (4 * (wrap64 (t277 * (wrap64 (648000 - t277))))))))).bind fun t279 => (some t279)))
theorem impl_sine.mono_l : ∀ k, (∀ y0, LeO (impl_sine.f k y0) (impl_sine.f (k + 1) y0))
 | 0 => fun _ r h => by simp [impl_sine.f] at h
 | k + 1 => by
  have ih0 := impl_sine.mono_l k
  ·intro y0; unfold impl_sine.f
   repeat' first
   | (with_reducible exact ih0 _)
   | (with_reducible exact LeO.refl _)
   | (with_reducible exact LeO.none _)
   | (with_reducible refine LeO.ite ?_ ?_)
   | (with_reducible refine LeO.bind ?_ (fun _ => ?_))
   | exact ih0 _
   | exact LeO.none _
   | refine LeO.ite ?_ ?_
   | refine LeO.bind ?_ (fun _ => ?_)
theorem impl_sine.mono : ∀ a0 k, LeO (impl_sine.f k a0) (impl_sine.f (k + 1) a0) := by
 intro a0 k; have ih0 := impl_sine.mono_l k; exact ih0 a0
set_option maxHeartbeats 8000000 in
set_option maxRecDepth 100000 in
theorem impl_sine.calls (k : Nat) : ∀ (a0 : Int) (r : Int) (w : World) (h : impl_sine.f k a0 = some r),
  Calls Tryz.prog 109 #[.int .i64 a0] w fun e w' => e = .returned (.int .i64 r) ∧ Drawn0 w w' := by
 induction k using Nat.strongRecOn with
 | _ k ih =>
 intro a0 r w h
 cases k with
 | zero => exact absurd h (by simp [impl_sine.f])
 | succ k =>
 simp only [impl_sine.f] at h; have H : ((impl_around.f a0).bind fun t277 => (if t277 ≥ 648000 then ((impl_sine.f k (wrap64 (t277 - 648000))).bind fun t278 => (some (wrap64 (-t278)))) else ((impl_nearest.f (wrap64 (16000000 * (wrap64 (t277 * (wrap64 (648000 - t277)))))) (wrap64 (2099520000000 - (wrap64 (4 * (wrap64 (t277 * (wrap64 (648000 - t277))))))))).bind fun t279 => (some t279)))) = some r := h; clear h; replace H := bf.mp H; obtain ⟨t277, A20, H⟩ := H; (try dsimp only at H); have A2 := aa A20; clear A20; by_cases c3 : t277 ≥ 648000
 ·rw [if_pos c3] at H; have c3b0 : decide (648000 ≤ t277) = true := decide_eq_true c3; clear c3; replace H := bf.mp H; obtain ⟨t278, A40, H⟩ := H; replace H : (some (wrap64 (-t278))) = some r := H; have A4 := aa A40; clear A40; obtain rfl := Option.some.inj H; go_enter Tryz.func109, Tryz.ntmps109
  go_wp2_with (first | ((with_reducible refine gate_callee (f := 112) rfl ?_); refine goesL_ (some 6) rfl rfl Tryz.func112 (by kernel_rfl) rfl #[.int .i64 a0] rfl (by (try simp only [b3, b4, b5]); first | done | rfl | (simp only [b0, b2]; rfl)) ?_; (with_reducible refine (impl_around.calls a0 t277 _ A2.out).mono ?_); rintro e w' ⟨rfl, ⟨nd, rfl⟩⟩; refine ⟨_, rfl, ?_⟩) | ((with_reducible refine gate_callee (f := 109) rfl ?_); refine goesL_ (some 11) rfl rfl Tryz.func109 (by kernel_rfl) rfl #[.int .i64 (wrap64 (t277 - 648000))] rfl (by (try simp only [b3, b4, b5]); first | done | rfl | (simp only [b0, b2]; rfl)) ?_; (with_reducible refine (ih k (by omega) (wrap64 (t277 - 648000)) t278 _ A4.out).mono ?_); rintro e w' ⟨rfl, ⟨nd, rfl⟩⟩; refine ⟨_, rfl, ?_⟩))
  go_ret; exact ⟨by first | rfl | (simp; done) | (simp [*]; done), by repeat (first | exact Drawn0.refl _ | apply Drawn0.step)⟩
 ·rw [if_neg c3] at H; have c3b0 : decide (648000 ≤ t277) = false := decide_eq_false c3; clear c3; replace H := bf.mp H; obtain ⟨t279, A50, H⟩ := H; replace H : (some t279) = some r := H; have A5 := aa A50; clear A50; obtain rfl := Option.some.inj H; go_enter Tryz.func109, Tryz.ntmps109
  go_wp2_with (first | ((with_reducible refine gate_callee (f := 112) rfl ?_); refine goesL_ (some 6) rfl rfl Tryz.func112 (by kernel_rfl) rfl #[.int .i64 a0] rfl (by (try simp only [b3, b4, b5]); first | done | rfl | (simp only [b0, b2]; rfl)) ?_; (with_reducible refine (impl_around.calls a0 t277 _ A2.out).mono ?_); rintro e w' ⟨rfl, ⟨nd, rfl⟩⟩; refine ⟨_, rfl, ?_⟩) | ((with_reducible refine gate_callee (f := 116) rfl ?_); refine goesL_ (some 22) rfl rfl Tryz.func116 (by kernel_rfl) rfl #[.int .i64 (wrap64 (16000000 * (wrap64 (t277 * (wrap64 (648000 - t277)))))), .int .i64 (wrap64 (2099520000000 - (wrap64 (4 * (wrap64 (t277 * (wrap64 (648000 - t277))))))))] rfl (by (try simp only [b3, b4, b5]); first | done | rfl | (simp only [b0, b2]; rfl)) ?_; (with_reducible refine (impl_nearest.calls (wrap64 (16000000 * (wrap64 (t277 * (wrap64 (648000 - t277)))))) (wrap64 (2099520000000 - (wrap64 (4 * (wrap64 (t277 * (wrap64 (648000 - t277)))))))) t279 _ A5.out).mono ?_); rintro e w' ⟨rfl, ⟨nd, rfl⟩⟩; refine ⟨_, rfl, ?_⟩))
  go_ret; exact ⟨by first | rfl | (simp; done) | (simp [*]; done), by repeat (first | exact Drawn0.refl _ | apply Drawn0.step)⟩
def impl_cosine.f (k : Nat) (a0 : Int) : Option (Int) := (impl_sine.f k (wrap64 (a0 + 324000))).bind fun t280 => (some t280)
theorem impl_cosine.mono : ∀ a0 k, LeO (impl_cosine.f k a0) (impl_cosine.f (k + 1) a0) := by
 intro a0 k; unfold impl_cosine.f
 repeat' first
   | (with_reducible exact impl_sine.mono _ _)
   | (with_reducible exact LeO.refl _)
   | (with_reducible exact LeO.none _)
   | (with_reducible refine LeO.ite ?_ ?_)
   | (with_reducible refine LeO.bind ?_ (fun _ => ?_))
   | exact impl_sine.mono _ _
   | exact LeO.none _
   | refine LeO.ite ?_ ?_
   | refine LeO.bind ?_ (fun _ => ?_)
set_option maxHeartbeats 8000000 in
set_option maxRecDepth 100000 in
theorem impl_cosine.calls (k : Nat) (a0 : Int) (r : Int) (w : World) (h : impl_cosine.f k a0 = some r) :
  Calls Tryz.prog 110 #[.int .i64 a0] w fun e w' => e = .returned (.int .i64 r) ∧ Drawn0 w w' := by
 have H : ((impl_sine.f k (wrap64 (a0 + 324000))).bind fun t280 => (some t280)) = some r := h; clear h; replace H := bf.mp H; obtain ⟨t280, A20, H⟩ := H; replace H : (some t280) = some r := H; have A2 := aa A20; clear A20; obtain rfl := Option.some.inj H; go_enter Tryz.func110, Tryz.ntmps110
 go_wp2_with (first | ((with_reducible refine gate_callee (f := 109) rfl ?_); refine goesL_ (some 5) rfl rfl Tryz.func109 (by kernel_rfl) rfl #[.int .i64 (wrap64 (a0 + 324000))] rfl (by (try simp only [b3, b4, b5]); first | done | rfl | (simp only [b0, b2]; rfl)) ?_; (with_reducible refine (impl_sine.calls k (wrap64 (a0 + 324000)) t280 _ A2.out).mono ?_); rintro e w' ⟨rfl, ⟨nd, rfl⟩⟩; refine ⟨_, rfl, ?_⟩))
 go_ret; exact ⟨by first | rfl | (simp; done) | (simp [*]; done), by repeat (first | exact Drawn0.refl _ | apply Drawn0.step)⟩
def impl_cosDistance.f (k : Nat) (a0_0 : Int) (a0_1 : Int) (a1_0 : Int) (a1_1 : Int) : Option (Int) := (impl_sine.f k a0_0).bind fun t283 => ((impl_sine.f k a1_0).bind fun t284 => ((impl_cosine.f k a0_0).bind fun t285 => ((impl_cosine.f k a1_0).bind fun t286 => ((impl_cosine.f k (wrap64 (a1_1 - a0_1))).bind fun t287 => ((impl_floorDiv.f (wrap64 ((wrap64 ((wrap64 (t283 * t284)) * 1000000)) + (wrap64 ((wrap64 (t285 * t286)) * t287)))) 1000000000000).bind fun t288 => (some (mx (-1000000) (mn 1000000 t288))))))))
theorem impl_cosDistance.mono : ∀ a0 a1 a2 a3 k, LeO (impl_cosDistance.f k a0 a1 a2 a3) (impl_cosDistance.f (k + 1) a0 a1 a2 a3) := by
 intro a0 a1 a2 a3 k
 unfold impl_cosDistance.f
 repeat' first
   | (with_reducible exact impl_cosine.mono _ _)
   | (with_reducible exact impl_sine.mono _ _)
   | (with_reducible exact LeO.refl _)
   | (with_reducible exact LeO.none _)
   | (with_reducible refine LeO.ite ?_ ?_)
   | (with_reducible refine LeO.bind ?_ (fun _ => ?_))
   | exact impl_cosine.mono _ _
   | exact impl_sine.mono _ _
   | exact LeO.none _
   | refine LeO.ite ?_ ?_
   | refine LeO.bind ?_ (fun _ => ?_)
set_option maxHeartbeats 8000000 in
set_option maxRecDepth 100000 in
theorem impl_cosDistance.calls (k : Nat) (a0_0 : Int) (a0_1 : Int) (a1_0 : Int) (a1_1 : Int) (r : Int) (w : World) (h : impl_cosDistance.f k a0_0 a0_1 a1_0 a1_1 = some r) :
  Calls Tryz.prog 101 #[.agg #[.int .i64 a0_0, .int .i64 a0_1], .agg #[.int .i64 a1_0, .int .i64 a1_1]] w fun e w' => e = .returned (.int .i64 r) ∧ Below w.heap.size w w' := by
 have hu105 := Tryz.underlying105
 have HB := aa (Below.refl w.heap.size w)
 have H : ((impl_sine.f k a0_0).bind fun t283 => ((impl_sine.f k a1_0).bind fun t284 => ((impl_cosine.f k a0_0).bind fun t285 => ((impl_cosine.f k a1_0).bind fun t286 => ((impl_cosine.f k (wrap64 (a1_1 - a0_1))).bind fun t287 => ((impl_floorDiv.f (wrap64 ((wrap64 ((wrap64 (t283 * t284)) * 1000000)) + (wrap64 ((wrap64 (t285 * t286)) * t287)))) 1000000000000).bind fun t288 => (some (mx (-1000000) (mn 1000000 t288))))))))) = some r := h
 clear h
 replace H := bf.mp H
 obtain ⟨t283, A30, H⟩ := H
 replace H : ((impl_sine.f k a1_0).bind fun t284 => ((impl_cosine.f k a0_0).bind fun t285 => ((impl_cosine.f k a1_0).bind fun t286 => ((impl_cosine.f k (wrap64 (a1_1 - a0_1))).bind fun t287 => ((impl_floorDiv.f (wrap64 ((wrap64 ((wrap64 (t283 * t284)) * 1000000)) + (wrap64 ((wrap64 (t285 * t286)) * t287)))) 1000000000000).bind fun t288 => (some (mx (-1000000) (mn 1000000 t288)))))))) = some r := H
 have A3 := aa A30
 clear A30
 replace H := bf.mp H
 obtain ⟨t284, A40, H⟩ := H
 replace H : ((impl_cosine.f k a0_0).bind fun t285 => ((impl_cosine.f k a1_0).bind fun t286 => ((impl_cosine.f k (wrap64 (a1_1 - a0_1))).bind fun t287 => ((impl_floorDiv.f (wrap64 ((wrap64 ((wrap64 (t283 * t284)) * 1000000)) + (wrap64 ((wrap64 (t285 * t286)) * t287)))) 1000000000000).bind fun t288 => (some (mx (-1000000) (mn 1000000 t288))))))) = some r := H
 have A4 := aa A40
 clear A40
 replace H := bf.mp H
 obtain ⟨t285, A50, H⟩ := H
 replace H : ((impl_cosine.f k a1_0).bind fun t286 => ((impl_cosine.f k (wrap64 (a1_1 - a0_1))).bind fun t287 => ((impl_floorDiv.f (wrap64 ((wrap64 ((wrap64 (t283 * t284)) * 1000000)) + (wrap64 ((wrap64 (t285 * t286)) * t287)))) 1000000000000).bind fun t288 => (some (mx (-1000000) (mn 1000000 t288)))))) = some r := H
 have A5 := aa A50
 clear A50
 replace H := bf.mp H
 obtain ⟨t286, A60, H⟩ := H
 replace H : ((impl_cosine.f k (wrap64 (a1_1 - a0_1))).bind fun t287 => ((impl_floorDiv.f (wrap64 ((wrap64 ((wrap64 (t283 * t284)) * 1000000)) + (wrap64 ((wrap64 (t285 * t286)) * t287)))) 1000000000000).bind fun t288 => (some (mx (-1000000) (mn 1000000 t288))))) = some r := H
 have A6 := aa A60
 clear A60
 replace H := bf.mp H
 obtain ⟨t287, A70, H⟩ := H
 replace H : ((impl_floorDiv.f (wrap64 ((wrap64 ((wrap64 (t283 * t284)) * 1000000)) + (wrap64 ((wrap64 (t285 * t286)) * t287)))) 1000000000000).bind fun t288 => (some (mx (-1000000) (mn 1000000 t288)))) = some r := H
 have A7 := aa A70
 clear A70
 replace H := bf.mp H
 obtain ⟨t288, A80, H⟩ := H
 replace H : (some (mx (-1000000) (mn 1000000 t288))) = some r := H
 have A8 := aa A80
 clear A80
 obtain ⟨ji9, hji9⟩ : ∃ j_ : Int, (mn 1000000 t288) = j_ := ⟨_, rfl⟩
 replace H : (some (mx (-1000000) (ji9))) = some r := by first | (rw [hji9] at H; exact H) | (simp only [hji9] at H ⊢; exact H)
 (try rw [hji9] at A3)
 (try rw [hji9] at A4)
 (try rw [hji9] at A5)
 (try rw [hji9] at A6)
 (try rw [hji9] at A7)
 (try rw [hji9] at A8)
 (try (have hji9h : ji9 ≤ 1000000 := by (rw [← hji9]; unfold mn; (repeat' split) <;> omega)))
 (try (have hji9g : ji9 ≤ 64 := by omega))
 have hji9_ : (if t288 < 1000000 then t288 else 1000000) = ji9 := hji9
 obtain ⟨ji10, hji10⟩ : ∃ j_ : Int, (mx (-1000000) (ji9)) = j_ := ⟨_, rfl⟩
 replace H : (some ji10) = some r := by first | (rw [hji10] at H; exact H) | (simp only [hji10] at H ⊢; exact H)
 (try rw [hji10] at A3)
 (try rw [hji10] at A4)
 (try rw [hji10] at A5)
 (try rw [hji10] at A6)
 (try rw [hji10] at A7)
 (try rw [hji10] at A8)
 have hji10_ : (if (-1000000) < (ji9) then (ji9) else (-1000000)) = ji10 := hji10
 obtain rfl := Option.some.inj H
 go_enter Tryz.func101, Tryz.ntmps101
 go_wp2_with (first | ((with_reducible refine az (N := 2) rfl ?_); refine bb ?hg (N := 2) ?hd (cs := #[.int .i64 a0_0, .int .i64 a0_1]) (t := 105) ?hr ?_; (case hd => rfl); (case hg => rfl); (case hr => first | (go_simp; done) | (go_simp; rfl)); intro gb281 hg w11 hbox hb; have n0_ := aa (af (by repeat (first | (with_reducible first | exact HB.out | apply ae | apply ab | apply ac) | exact HB.out)) hb); have n1_ := aa (hbox); have n2_ := aa ((by rw [hg]; exact (al (by repeat (first | (with_reducible first | exact HB.out | apply ae | apply ab | apply ac) | exact HB.out))) : w.heap.size ≤ gb281)); have n3_ := aa ((by rw [hg]; exact (al (by repeat (first | (with_reducible first | exact HB.out | apply ae | apply ab | apply ac) | exact HB.out))) : w.heap.size ≤ gb281)); clear HB; have HB := n0_; have BK281 := n1_; have GW281 := n2_; have GE281 := n3_; clear n0_ n1_ n2_ n3_; clear hb hbox hg) | ((with_reducible refine az (N := 3) rfl ?_); refine bb ?hg (N := 3) ?hd (cs := #[.int .i64 a1_0, .int .i64 a1_1]) (t := 105) ?hr ?_; (case hd => rfl); (case hg => rfl); (case hr => first | (go_simp; done) | (go_simp; rfl)); intro gb282 hg w12 hbox hb; have n0_ := aa (ba (g := gb281) (o := .cells #[.int .i64 a0_0, .int .i64 a0_1] 105 (0, 0)) (by (with_reducible repeat (first | refine an ?_ _ | refine aq ?_ | refine am ?_ _)); exact BK281.out) hb); have n1_ := aa (af (by repeat (first | (with_reducible first | exact HB.out | apply ae | apply ab | apply ac | refine ak ?_ GE281.out) | exact HB.out)) hb); have n2_ := aa (hbox); have n3_ := aa ((by rw [hg]; exact (al (by repeat (first | (with_reducible first | exact HB.out | apply ae | apply ab | apply ac | refine ak ?_ GE281.out) | exact HB.out))) : w.heap.size ≤ gb282)); have n4_ := aa ((by rw [hg]; exact (al (by repeat (first | (with_reducible first | exact HB.out | apply ae | apply ab | apply ac | refine ak ?_ GE281.out) | exact HB.out))) : w.heap.size ≤ gb282)); have n5_ := aa ((by rw [hg]; exact Nat.ne_of_lt (blk_lt (g := gb281) (o := .cells #[.int .i64 a0_0, .int .i64 a0_1] 105 (0, 0)) (by (with_reducible repeat (first | refine an ?_ _ | refine aq ?_ | refine am ?_ _)); exact BK281.out)) : gb281 ≠ gb282)); have n6_ := aa ((by rw [hg]; exact Nat.ne_of_gt (blk_lt (g := gb281) (o := .cells #[.int .i64 a0_0, .int .i64 a0_1] 105 (0, 0)) (by (with_reducible repeat (first | refine an ?_ _ | refine aq ?_ | refine am ?_ _)); exact BK281.out)) : gb282 ≠ gb281)); clear BK281; clear HB; have BK281 := n0_; have HB := n1_; have BK282 := n2_; have GW282 := n3_; have GE282 := n4_; have NB281_282 := n5_; have NB282_281 := n6_; clear n0_ n1_ n2_ n3_ n4_ n5_ n6_; clear hb hbox hg; have hnb13 := NB281_282.out; have hnc13 := NB282_281.out; have hcz14_0 : w12.cell? ⟨gb281, 0, none⟩ = some (.int .i64 a0_0) := (ap BK281.out 0).trans rfl; have hcz14_1 : w12.cell? ⟨gb281, 1, none⟩ = some (.int .i64 a0_1) := (ap BK281.out 1).trans rfl; have hfz14_0 := ao BK281.out 0; have hfz14_1 := ao BK281.out 1) | (go_at_call 109; (with_reducible refine (impl_sine.calls k a0_0 t283 _ A3.out).mono ?_); rintro e w' ⟨rfl, ⟨nd, rfl⟩⟩; (try first | exact ⟨rfl, _, aj _ _ _⟩ | exact ⟨rfl, _, Eq.trans (aj _ _ _) (congrArg (World.drewN _) (Nat.add_assoc _ _ _))⟩); have hcz15_0 : w12.cell? ⟨gb282, 0, none⟩ = some (.int .i64 a1_0) := (ap BK282.out 0).trans rfl; have hcz15_1 : w12.cell? ⟨gb282, 1, none⟩ = some (.int .i64 a1_1) := (ap BK282.out 1).trans rfl; have hfz15_0 := ao BK282.out 0; have hfz15_1 := ao BK282.out 1) | (go_at_call 109; (with_reducible refine (impl_sine.calls k a1_0 t284 _ A4.out).mono ?_); rintro e w' ⟨rfl, ⟨nd, rfl⟩⟩; (try first | exact ⟨rfl, _, aj _ _ _⟩ | exact ⟨rfl, _, Eq.trans (aj _ _ _) (congrArg (World.drewN _) (Nat.add_assoc _ _ _))⟩)) | (go_at_call 110; (with_reducible refine (impl_cosine.calls k a0_0 t285 _ A5.out).mono ?_); rintro e w' ⟨rfl, ⟨nd, rfl⟩⟩; (try first | exact ⟨rfl, _, aj _ _ _⟩ | exact ⟨rfl, _, Eq.trans (aj _ _ _) (congrArg (World.drewN _) (Nat.add_assoc _ _ _))⟩)) | (go_at_call 110; (with_reducible refine (impl_cosine.calls k a1_0 t286 _ A6.out).mono ?_); rintro e w' ⟨rfl, ⟨nd, rfl⟩⟩; (try first | exact ⟨rfl, _, aj _ _ _⟩ | exact ⟨rfl, _, Eq.trans (aj _ _ _) (congrArg (World.drewN _) (Nat.add_assoc _ _ _))⟩)) | (go_at_call 110; (with_reducible refine (impl_cosine.calls k (wrap64 (a1_1 - a0_1)) t287 _ A7.out).mono ?_); rintro e w' ⟨rfl, ⟨nd, rfl⟩⟩; (try first | exact ⟨rfl, _, aj _ _ _⟩ | exact ⟨rfl, _, Eq.trans (aj _ _ _) (congrArg (World.drewN _) (Nat.add_assoc _ _ _))⟩)) | (go_at_call 111; (with_reducible refine (impl_floorDiv.calls (wrap64 ((wrap64 ((wrap64 (t283 * t284)) * 1000000)) + (wrap64 ((wrap64 (t285 * t286)) * t287)))) 1000000000000 t288 _ A8.out).mono ?_); rintro e w' ⟨rfl, ⟨nd, rfl⟩⟩; (try first | exact ⟨rfl, _, aj _ _ _⟩ | exact ⟨rfl, _, Eq.trans (aj _ _ _) (congrArg (World.drewN _) (Nat.add_assoc _ _ _))⟩)))
 have hcz15_0 : w12.cell? ⟨gb282, 0, none⟩ = some (.int .i64 a1_0) := (ap BK282.out 0).trans rfl
 have hcz15_1 : w12.cell? ⟨gb282, 1, none⟩ = some (.int .i64 a1_1) := (ap BK282.out 1).trans rfl
 have hfz15_0 := ao BK282.out 0
 have hfz15_1 := ao BK282.out 1
 have hcz15_0 : w12.cell? ⟨gb282, 0, none⟩ = some (.int .i64 a1_0) := (ap BK282.out 0).trans rfl
 have hcz15_1 : w12.cell? ⟨gb282, 1, none⟩ = some (.int .i64 a1_1) := (ap BK282.out 1).trans rfl
 have hfz15_0 := ao BK282.out 0
 have hfz15_1 := ao BK282.out 1
 repeat (go_quiet (first | ((with_reducible refine az (N := 2) rfl ?_); refine bb ?hg (N := 2) ?hd (cs := #[.int .i64 a0_0, .int .i64 a0_1]) (t := 105) ?hr ?_; (case hd => rfl); (case hg => rfl); (case hr => first | (go_simp; done) | (go_simp; rfl)); intro gb281 hg w11 hbox hb; have n0_ := aa (af (by repeat (first | (with_reducible first | exact HB.out | apply ae | apply ab | apply ac) | exact HB.out)) hb); have n1_ := aa (hbox); have n2_ := aa ((by rw [hg]; exact (al (by repeat (first | (with_reducible first | exact HB.out | apply ae | apply ab | apply ac) | exact HB.out))) : w.heap.size ≤ gb281)); have n3_ := aa ((by rw [hg]; exact (al (by repeat (first | (with_reducible first | exact HB.out | apply ae | apply ab | apply ac) | exact HB.out))) : w.heap.size ≤ gb281)); clear HB; have HB := n0_; have BK281 := n1_; have GW281 := n2_; have GE281 := n3_; clear n0_ n1_ n2_ n3_; clear hb hbox hg) | ((with_reducible refine az (N := 3) rfl ?_); refine bb ?hg (N := 3) ?hd (cs := #[.int .i64 a1_0, .int .i64 a1_1]) (t := 105) ?hr ?_; (case hd => rfl); (case hg => rfl); (case hr => first | (go_simp; done) | (go_simp; rfl)); intro gb282 hg w12 hbox hb; have n0_ := aa (ba (g := gb281) (o := .cells #[.int .i64 a0_0, .int .i64 a0_1] 105 (0, 0)) (by (with_reducible repeat (first | refine an ?_ _ | refine aq ?_ | refine am ?_ _)); exact BK281.out) hb); have n1_ := aa (af (by repeat (first | (with_reducible first | exact HB.out | apply ae | apply ab | apply ac | refine ak ?_ GE281.out) | exact HB.out)) hb); have n2_ := aa (hbox); have n3_ := aa ((by rw [hg]; exact (al (by repeat (first | (with_reducible first | exact HB.out | apply ae | apply ab | apply ac | refine ak ?_ GE281.out) | exact HB.out))) : w.heap.size ≤ gb282)); have n4_ := aa ((by rw [hg]; exact (al (by repeat (first | (with_reducible first | exact HB.out | apply ae | apply ab | apply ac | refine ak ?_ GE281.out) | exact HB.out))) : w.heap.size ≤ gb282)); have n5_ := aa ((by rw [hg]; exact Nat.ne_of_lt (blk_lt (g := gb281) (o := .cells #[.int .i64 a0_0, .int .i64 a0_1] 105 (0, 0)) (by (with_reducible repeat (first | refine an ?_ _ | refine aq ?_ | refine am ?_ _)); exact BK281.out)) : gb281 ≠ gb282)); have n6_ := aa ((by rw [hg]; exact Nat.ne_of_gt (blk_lt (g := gb281) (o := .cells #[.int .i64 a0_0, .int .i64 a0_1] 105 (0, 0)) (by (with_reducible repeat (first | refine an ?_ _ | refine aq ?_ | refine am ?_ _)); exact BK281.out)) : gb282 ≠ gb281)); clear BK281; clear HB; have BK281 := n0_; have HB := n1_; have BK282 := n2_; have GW282 := n3_; have GE282 := n4_; have NB281_282 := n5_; have NB282_281 := n6_; clear n0_ n1_ n2_ n3_ n4_ n5_ n6_; clear hb hbox hg; have hnb13 := NB281_282.out; have hnc13 := NB282_281.out; have hcz14_0 : w12.cell? ⟨gb281, 0, none⟩ = some (.int .i64 a0_0) := (ap BK281.out 0).trans rfl; have hcz14_1 : w12.cell? ⟨gb281, 1, none⟩ = some (.int .i64 a0_1) := (ap BK281.out 1).trans rfl; have hfz14_0 := ao BK281.out 0; have hfz14_1 := ao BK281.out 1) | (go_at_call 109; (with_reducible refine (impl_sine.calls k a0_0 t283 _ A3.out).mono ?_); rintro e w' ⟨rfl, ⟨nd, rfl⟩⟩; (try first | exact ⟨rfl, _, aj _ _ _⟩ | exact ⟨rfl, _, Eq.trans (aj _ _ _) (congrArg (World.drewN _) (Nat.add_assoc _ _ _))⟩); have hcz15_0 : w12.cell? ⟨gb282, 0, none⟩ = some (.int .i64 a1_0) := (ap BK282.out 0).trans rfl; have hcz15_1 : w12.cell? ⟨gb282, 1, none⟩ = some (.int .i64 a1_1) := (ap BK282.out 1).trans rfl; have hfz15_0 := ao BK282.out 0; have hfz15_1 := ao BK282.out 1) | (go_at_call 109; (with_reducible refine (impl_sine.calls k a1_0 t284 _ A4.out).mono ?_); rintro e w' ⟨rfl, ⟨nd, rfl⟩⟩; (try first | exact ⟨rfl, _, aj _ _ _⟩ | exact ⟨rfl, _, Eq.trans (aj _ _ _) (congrArg (World.drewN _) (Nat.add_assoc _ _ _))⟩)) | (go_at_call 110; (with_reducible refine (impl_cosine.calls k a0_0 t285 _ A5.out).mono ?_); rintro e w' ⟨rfl, ⟨nd, rfl⟩⟩; (try first | exact ⟨rfl, _, aj _ _ _⟩ | exact ⟨rfl, _, Eq.trans (aj _ _ _) (congrArg (World.drewN _) (Nat.add_assoc _ _ _))⟩)) | (go_at_call 110; (with_reducible refine (impl_cosine.calls k a1_0 t286 _ A6.out).mono ?_); rintro e w' ⟨rfl, ⟨nd, rfl⟩⟩; (try first | exact ⟨rfl, _, aj _ _ _⟩ | exact ⟨rfl, _, Eq.trans (aj _ _ _) (congrArg (World.drewN _) (Nat.add_assoc _ _ _))⟩)) | (go_at_call 110; (try simp only [Go.IntWalk.i64_left]); (with_reducible refine (impl_cosine.calls k (wrap64 (a1_1 - a0_1)) t287 _ A7.out).mono ?_); rintro e w' ⟨rfl, ⟨nd, rfl⟩⟩; (try first | exact ⟨rfl, _, aj _ _ _⟩ | exact ⟨rfl, _, Eq.trans (aj _ _ _) (congrArg (World.drewN _) (Nat.add_assoc _ _ _))⟩)) | (go_at_call 111; (try simp only [Go.IntWalk.i64_left]); (with_reducible refine (impl_floorDiv.calls (wrap64 ((wrap64 ((wrap64 (t283 * t284)) * 1000000)) + (wrap64 ((wrap64 (t285 * t286)) * t287)))) 1000000000000 t288 _ A8.out).mono ?_); rintro e w' ⟨rfl, ⟨nd, rfl⟩⟩; (try first | exact ⟨rfl, _, aj _ _ _⟩ | exact ⟨rfl, _, Eq.trans (aj _ _ _) (congrArg (World.drewN _) (Nat.add_assoc _ _ _))⟩))); try go_wp2_with (first | ((with_reducible refine az (N := 2) rfl ?_); refine bb ?hg (N := 2) ?hd (cs := #[.int .i64 a0_0, .int .i64 a0_1]) (t := 105) ?hr ?_; (case hd => rfl); (case hg => rfl); (case hr => first | (go_simp; done) | (go_simp; rfl)); intro gb281 hg w11 hbox hb; have n0_ := aa (af (by repeat (first | (with_reducible first | exact HB.out | apply ae | apply ab | apply ac) | exact HB.out)) hb); have n1_ := aa (hbox); have n2_ := aa ((by rw [hg]; exact (al (by repeat (first | (with_reducible first | exact HB.out | apply ae | apply ab | apply ac) | exact HB.out))) : w.heap.size ≤ gb281)); have n3_ := aa ((by rw [hg]; exact (al (by repeat (first | (with_reducible first | exact HB.out | apply ae | apply ab | apply ac) | exact HB.out))) : w.heap.size ≤ gb281)); clear HB; have HB := n0_; have BK281 := n1_; have GW281 := n2_; have GE281 := n3_; clear n0_ n1_ n2_ n3_; clear hb hbox hg) | ((with_reducible refine az (N := 3) rfl ?_); refine bb ?hg (N := 3) ?hd (cs := #[.int .i64 a1_0, .int .i64 a1_1]) (t := 105) ?hr ?_; (case hd => rfl); (case hg => rfl); (case hr => first | (go_simp; done) | (go_simp; rfl)); intro gb282 hg w12 hbox hb; have n0_ := aa (ba (g := gb281) (o := .cells #[.int .i64 a0_0, .int .i64 a0_1] 105 (0, 0)) (by (with_reducible repeat (first | refine an ?_ _ | refine aq ?_ | refine am ?_ _)); exact BK281.out) hb); have n1_ := aa (af (by repeat (first | (with_reducible first | exact HB.out | apply ae | apply ab | apply ac | refine ak ?_ GE281.out) | exact HB.out)) hb); have n2_ := aa (hbox); have n3_ := aa ((by rw [hg]; exact (al (by repeat (first | (with_reducible first | exact HB.out | apply ae | apply ab | apply ac | refine ak ?_ GE281.out) | exact HB.out))) : w.heap.size ≤ gb282)); have n4_ := aa ((by rw [hg]; exact (al (by repeat (first | (with_reducible first | exact HB.out | apply ae | apply ab | apply ac | refine ak ?_ GE281.out) | exact HB.out))) : w.heap.size ≤ gb282)); have n5_ := aa ((by rw [hg]; exact Nat.ne_of_lt (blk_lt (g := gb281) (o := .cells #[.int .i64 a0_0, .int .i64 a0_1] 105 (0, 0)) (by (with_reducible repeat (first | refine an ?_ _ | refine aq ?_ | refine am ?_ _)); exact BK281.out)) : gb281 ≠ gb282)); have n6_ := aa ((by rw [hg]; exact Nat.ne_of_gt (blk_lt (g := gb281) (o := .cells #[.int .i64 a0_0, .int .i64 a0_1] 105 (0, 0)) (by (with_reducible repeat (first | refine an ?_ _ | refine aq ?_ | refine am ?_ _)); exact BK281.out)) : gb282 ≠ gb281)); clear BK281; clear HB; have BK281 := n0_; have HB := n1_; have BK282 := n2_; have GW282 := n3_; have GE282 := n4_; have NB281_282 := n5_; have NB282_281 := n6_; clear n0_ n1_ n2_ n3_ n4_ n5_ n6_; clear hb hbox hg; have hnb13 := NB281_282.out; have hnc13 := NB282_281.out; have hcz14_0 : w12.cell? ⟨gb281, 0, none⟩ = some (.int .i64 a0_0) := (ap BK281.out 0).trans rfl; have hcz14_1 : w12.cell? ⟨gb281, 1, none⟩ = some (.int .i64 a0_1) := (ap BK281.out 1).trans rfl; have hfz14_0 := ao BK281.out 0; have hfz14_1 := ao BK281.out 1) | (go_at_call 109; (with_reducible refine (impl_sine.calls k a0_0 t283 _ A3.out).mono ?_); rintro e w' ⟨rfl, ⟨nd, rfl⟩⟩; (try first | exact ⟨rfl, _, aj _ _ _⟩ | exact ⟨rfl, _, Eq.trans (aj _ _ _) (congrArg (World.drewN _) (Nat.add_assoc _ _ _))⟩); have hcz15_0 : w12.cell? ⟨gb282, 0, none⟩ = some (.int .i64 a1_0) := (ap BK282.out 0).trans rfl; have hcz15_1 : w12.cell? ⟨gb282, 1, none⟩ = some (.int .i64 a1_1) := (ap BK282.out 1).trans rfl; have hfz15_0 := ao BK282.out 0; have hfz15_1 := ao BK282.out 1) | (go_at_call 109; (with_reducible refine (impl_sine.calls k a1_0 t284 _ A4.out).mono ?_); rintro e w' ⟨rfl, ⟨nd, rfl⟩⟩; (try first | exact ⟨rfl, _, aj _ _ _⟩ | exact ⟨rfl, _, Eq.trans (aj _ _ _) (congrArg (World.drewN _) (Nat.add_assoc _ _ _))⟩)) | (go_at_call 110; (with_reducible refine (impl_cosine.calls k a0_0 t285 _ A5.out).mono ?_); rintro e w' ⟨rfl, ⟨nd, rfl⟩⟩; (try first | exact ⟨rfl, _, aj _ _ _⟩ | exact ⟨rfl, _, Eq.trans (aj _ _ _) (congrArg (World.drewN _) (Nat.add_assoc _ _ _))⟩)) | (go_at_call 110; (with_reducible refine (impl_cosine.calls k a1_0 t286 _ A6.out).mono ?_); rintro e w' ⟨rfl, ⟨nd, rfl⟩⟩; (try first | exact ⟨rfl, _, aj _ _ _⟩ | exact ⟨rfl, _, Eq.trans (aj _ _ _) (congrArg (World.drewN _) (Nat.add_assoc _ _ _))⟩)) | (go_at_call 110; (try simp only [Go.IntWalk.i64_left]); (with_reducible refine (impl_cosine.calls k (wrap64 (a1_1 - a0_1)) t287 _ A7.out).mono ?_); rintro e w' ⟨rfl, ⟨nd, rfl⟩⟩; (try first | exact ⟨rfl, _, aj _ _ _⟩ | exact ⟨rfl, _, Eq.trans (aj _ _ _) (congrArg (World.drewN _) (Nat.add_assoc _ _ _))⟩)) | (go_at_call 111; (try simp only [Go.IntWalk.i64_left]); (with_reducible refine (impl_floorDiv.calls (wrap64 ((wrap64 ((wrap64 (t283 * t284)) * 1000000)) + (wrap64 ((wrap64 (t285 * t286)) * t287)))) 1000000000000 t288 _ A8.out).mono ?_); rintro e w' ⟨rfl, ⟨nd, rfl⟩⟩; (try first | exact ⟨rfl, _, aj _ _ _⟩ | exact ⟨rfl, _, Eq.trans (aj _ _ _) (congrArg (World.drewN _) (Nat.add_assoc _ _ _))⟩))))
 go_ret
 exact ⟨by first | rfl | (simp [errW_none, errW_some] <;> rfl) | (simp only [← hji9, ← hji10]; first | rfl | (simp [errW_none, errW_some] <;> rfl)) | (simp [*, errW_none, errW_some] <;> rfl), by repeat (first | (with_reducible first | exact HB.out | apply ae | apply ab | apply ac | refine ak ?_ GE281.out | refine ak ?_ GE282.out) | exact HB.out)⟩
def impl_wrap.f (a0 : Int) : Option (Int) := (impl_around.f (wrap64 (a0 + 648000))).bind fun t289 => (some (wrap64 (t289 - 648000)))
set_option maxHeartbeats 8000000 in
set_option maxRecDepth 100000 in
theorem impl_wrap.calls (a0 : Int) (r : Int) (w : World) (h : impl_wrap.f a0 = some r) :
  Calls Tryz.prog 102 #[.int .i64 a0] w fun e w' => e = .returned (.int .i64 r) ∧ Drawn0 w w' := by
 have H : ((impl_around.f (wrap64 (a0 + 648000))).bind fun t289 => (some (wrap64 (t289 - 648000)))) = some r := h; clear h; replace H := bf.mp H; obtain ⟨t289, A20, H⟩ := H; replace H : (some (wrap64 (t289 - 648000))) = some r := H; have A2 := aa A20; clear A20; obtain rfl := Option.some.inj H; go_enter Tryz.func102, Tryz.ntmps102
 go_wp2_with (first | ((with_reducible refine gate_callee (f := 112) rfl ?_); refine goesL_ (some 5) rfl rfl Tryz.func112 (by kernel_rfl) rfl #[.int .i64 (wrap64 (a0 + 648000))] rfl (by (try simp only [b3, b4, b5]); first | done | rfl | (simp only [b0, b2]; rfl)) ?_; (with_reducible refine (impl_around.calls (wrap64 (a0 + 648000)) t289 _ A2.out).mono ?_); rintro e w' ⟨rfl, ⟨nd, rfl⟩⟩; refine ⟨_, rfl, ?_⟩))
 go_ret; exact ⟨by first | rfl | (simp; done) | (simp [*]; done), by repeat (first | exact Drawn0.refl _ | apply Drawn0.step)⟩
def impl_altitudeSine.f (k : Nat) (a0 : Int) (a1 : Int) (a2 : Int) : Option (Int) := (impl_wrap.f a2).bind fun t290 => ((impl_cosDistance.f k a0 0 a1 t290).bind fun t291 => (some t291))
theorem impl_altitudeSine.mono : ∀ a0 a1 a2 k, LeO (impl_altitudeSine.f k a0 a1 a2) (impl_altitudeSine.f (k + 1) a0 a1 a2) := by
 intro a0 a1 a2 k; unfold impl_altitudeSine.f
 repeat' first
   | (with_reducible exact impl_cosDistance.mono _ _ _ _ _)
   | (with_reducible exact LeO.refl _)
   | (with_reducible exact LeO.none _)
   | (with_reducible refine LeO.ite ?_ ?_)
   | (with_reducible refine LeO.bind ?_ (fun _ => ?_))
   | exact impl_cosDistance.mono _ _ _ _ _
   | exact LeO.none _
   | refine LeO.ite ?_ ?_
   | refine LeO.bind ?_ (fun _ => ?_)
set_option maxHeartbeats 8000000 in
set_option maxRecDepth 100000 in
theorem impl_altitudeSine.calls (k : Nat) (a0 : Int) (a1 : Int) (a2 : Int) (r : Int) (w : World) (h : impl_altitudeSine.f k a0 a1 a2 = some r) :
  Calls Tryz.prog 93 #[.int .i64 a0, .int .i64 a1, .int .i64 a2] w fun e w' => e = .returned (.int .i64 r) ∧ Below w.heap.size w w' := by
 have hu105 := Tryz.underlying105; have HB := aa (Below.refl w.heap.size w); have H : ((impl_wrap.f a2).bind fun t290 => ((impl_cosDistance.f k a0 0 a1 t290).bind fun t291 => (some t291))) = some r := h; clear h; replace H := bf.mp H; obtain ⟨t290, A40, H⟩ := H; replace H : ((impl_cosDistance.f k a0 0 a1 t290).bind fun t291 => (some t291)) = some r := H; have A4 := aa A40; clear A40; replace H := bf.mp H; obtain ⟨t291, A50, H⟩ := H; replace H : (some t291) = some r := H; have A5 := aa A50; clear A50; obtain rfl := Option.some.inj H; go_enter Tryz.func93, Tryz.ntmps93
 go_wp2_with (first | ((with_reducible refine gate_callee (f := 102) rfl ?_); refine goesL_ (some 11) rfl rfl Tryz.func102 (by kernel_rfl) rfl #[.int .i64 a2] rfl (by (try simp only [b3, b4, b5]); first | done | rfl | (simp only [b0, b2]; rfl)) ?_; (with_reducible refine (impl_wrap.calls a2 t290 _ A4.out).mono ?_); rintro e w' ⟨rfl, ⟨nd, rfl⟩⟩; refine ⟨_, rfl, ?_⟩) | ((with_reducible refine gate_callee (f := 101) rfl ?_); refine goesL_ (some 13) rfl rfl Tryz.func101 (by kernel_rfl) rfl #[.agg #[.int .i64 a0, .int .i64 0], .agg #[.int .i64 a1, .int .i64 t290]] rfl (by (try simp only [b3, b4, b5]); first | done | rfl | (simp only [b0, b2]; rfl)) ?_; (with_reducible refine (impl_cosDistance.calls k a0 0 a1 t290 t291 _ A5.out).mono ?_); rintro e w6 ⟨rfl, hb⟩; refine ⟨_, rfl, ?_⟩; have n0_ := aa (af (by repeat (first | (with_reducible first | exact HB.out | apply ae | apply ab | apply ac) | exact HB.out)) hb); clear HB; have HB := n0_; clear n0_; (try clear hb); (try clear hb2); (try clear hk); (try clear hi)))
 go_ret; exact ⟨by first | rfl | (simp [errW_none, errW_some] <;> rfl) | (simp [*, errW_none, errW_some] <;> rfl), by repeat (first | (with_reducible first | exact HB.out | apply ae | apply ab | apply ac) | exact HB.out)⟩
def impl_isUp.f (k : Nat) (a0 : Int) (a1 : Int) (a2 : Int) : Option (Bool) := (impl_altitudeSine.f k a0 a1 a2).bind fun t292 => (some (decide (t292 ≥ 0)))
theorem impl_isUp.mono : ∀ a0 a1 a2 k, LeO (impl_isUp.f k a0 a1 a2) (impl_isUp.f (k + 1) a0 a1 a2) := by
 intro a0 a1 a2 k; unfold impl_isUp.f
 repeat' first
   | (with_reducible exact impl_altitudeSine.mono _ _ _ _)
   | (with_reducible exact LeO.refl _)
   | (with_reducible exact LeO.none _)
   | (with_reducible refine LeO.ite ?_ ?_)
   | (with_reducible refine LeO.bind ?_ (fun _ => ?_))
   | exact impl_altitudeSine.mono _ _ _ _
   | exact LeO.none _
   | refine LeO.ite ?_ ?_
   | refine LeO.bind ?_ (fun _ => ?_)
set_option maxHeartbeats 8000000 in
set_option maxRecDepth 100000 in
theorem impl_isUp.calls (k : Nat) (a0 : Int) (a1 : Int) (a2 : Int) (r : Bool) (w : World) (h : impl_isUp.f k a0 a1 a2 = some r) :
  Calls Tryz.prog 81 #[.int .i64 a0, .int .i64 a1, .int .i64 a2] w fun e w' => e = .returned (.bool r) ∧ Below w.heap.size w w' := by
 have HB := aa (Below.refl w.heap.size w); have H : ((impl_altitudeSine.f k a0 a1 a2).bind fun t292 => (some (decide (t292 ≥ 0)))) = some r := h; clear h; replace H := bf.mp H; obtain ⟨t292, A40, H⟩ := H; replace H : (some (decide (t292 ≥ 0))) = some r := H; have A4 := aa A40; clear A40; obtain rfl := Option.some.inj H; go_enter Tryz.func81, Tryz.ntmps81
 go_wp2_with (first | ((with_reducible refine gate_callee (f := 93) rfl ?_); refine goesL_ (some 10) rfl rfl Tryz.func93 (by kernel_rfl) rfl #[.int .i64 a0, .int .i64 a1, .int .i64 a2] rfl (by (try simp only [b3, b4, b5]); first | done | rfl | (simp only [b0, b2]; rfl)) ?_; (with_reducible refine (impl_altitudeSine.calls k a0 a1 a2 t292 _ A4.out).mono ?_); rintro e w5 ⟨rfl, hb⟩; refine ⟨_, rfl, ?_⟩; have n0_ := aa (af (by repeat (first | (with_reducible first | exact HB.out | apply ae | apply ab | apply ac) | exact HB.out)) hb); clear HB; have HB := n0_; clear n0_; (try clear hb); (try clear hb2); (try clear hk); (try clear hi)))
 go_ret; exact ⟨by first | rfl | (simp [errW_none, errW_some] <;> rfl) | (simp [*, errW_none, errW_some] <;> rfl), by repeat (first | (with_reducible first | exact HB.out | apply ae | apply ab | apply ac) | exact HB.out)⟩
def impl_neverRises.f (k : Nat) (a0 : Int) (a1 : Int) : Option (Bool) := (impl_isUp.f k a0 a1 0).bind fun t293 => (some (!t293))
theorem impl_neverRises.mono : ∀ a0 a1 k, LeO (impl_neverRises.f k a0 a1) (impl_neverRises.f (k + 1) a0 a1) := by
 intro a0 a1 k; unfold impl_neverRises.f
 repeat' first
   | (with_reducible exact impl_isUp.mono _ _ _ _)
   | (with_reducible exact LeO.refl _)
   | (with_reducible exact LeO.none _)
   | (with_reducible refine LeO.ite ?_ ?_)
   | (with_reducible refine LeO.bind ?_ (fun _ => ?_))
   | exact impl_isUp.mono _ _ _ _
   | exact LeO.none _
   | refine LeO.ite ?_ ?_
   | refine LeO.bind ?_ (fun _ => ?_)
set_option maxHeartbeats 8000000 in
set_option maxRecDepth 100000 in
theorem impl_neverRises.calls (k : Nat) (a0 : Int) (a1 : Int) (r : Bool) (w : World) (h : impl_neverRises.f k a0 a1 = some r) :
  Calls Tryz.prog 79 #[.int .i64 a0, .int .i64 a1] w fun e w' => e = .returned (.bool r) ∧ Below w.heap.size w w' := by
 have HB := aa (Below.refl w.heap.size w); have H : ((impl_isUp.f k a0 a1 0).bind fun t293 => (some (!t293))) = some r := h; clear h; replace H := bf.mp H; obtain ⟨t293, A30, H⟩ := H; replace H : (some (!t293)) = some r := H; have A3 := aa A30; clear A30; obtain rfl := Option.some.inj H; go_enter Tryz.func79, Tryz.ntmps79
 go_wp2_with (first | ((with_reducible refine gate_callee (f := 81) rfl ?_); refine goesL_ (some 7) rfl rfl Tryz.func81 (by kernel_rfl) rfl #[.int .i64 a0, .int .i64 a1, .int .i64 0] rfl (by (try simp only [b3, b4, b5]); first | done | rfl | (simp only [b0, b2]; rfl)) ?_; (with_reducible refine (impl_isUp.calls k a0 a1 0 t293 _ A3.out).mono ?_); rintro e w4 ⟨rfl, hb⟩; refine ⟨_, rfl, ?_⟩; have n0_ := aa (af (by repeat (first | (with_reducible first | exact HB.out | apply ae | apply ab | apply ac) | exact HB.out)) hb); clear HB; have HB := n0_; clear n0_; (try clear hb); (try clear hb2); (try clear hk); (try clear hi)))
 go_ret; exact ⟨by first | rfl | (simp [errW_none, errW_some] <;> rfl) | (simp [*, errW_none, errW_some] <;> rfl), by repeat (first | (with_reducible first | exact HB.out | apply ae | apply ab | apply ac) | exact HB.out)⟩
def impl_neverSets.f (k : Nat) (a0 : Int) (a1 : Int) : Option (Bool) := (impl_isUp.f k a0 a1 648000).bind fun t294 => (some t294)
theorem impl_neverSets.mono : ∀ a0 a1 k, LeO (impl_neverSets.f k a0 a1) (impl_neverSets.f (k + 1) a0 a1) := by
 intro a0 a1 k; unfold impl_neverSets.f
 repeat' first
   | (with_reducible exact impl_isUp.mono _ _ _ _)
   | (with_reducible exact LeO.refl _)
   | (with_reducible exact LeO.none _)
   | (with_reducible refine LeO.ite ?_ ?_)
   | (with_reducible refine LeO.bind ?_ (fun _ => ?_))
   | exact impl_isUp.mono _ _ _ _
   | exact LeO.none _
   | refine LeO.ite ?_ ?_
   | refine LeO.bind ?_ (fun _ => ?_)
set_option maxHeartbeats 8000000 in
set_option maxRecDepth 100000 in
theorem impl_neverSets.calls (k : Nat) (a0 : Int) (a1 : Int) (r : Bool) (w : World) (h : impl_neverSets.f k a0 a1 = some r) :
  Calls Tryz.prog 80 #[.int .i64 a0, .int .i64 a1] w fun e w' => e = .returned (.bool r) ∧ Below w.heap.size w w' := by
 have HB := aa (Below.refl w.heap.size w); have H : ((impl_isUp.f k a0 a1 648000).bind fun t294 => (some t294)) = some r := h; clear h; replace H := bf.mp H; obtain ⟨t294, A30, H⟩ := H; replace H : (some t294) = some r := H; have A3 := aa A30; clear A30; obtain rfl := Option.some.inj H; go_enter Tryz.func80, Tryz.ntmps80
 go_wp2_with (first | ((with_reducible refine gate_callee (f := 81) rfl ?_); refine goesL_ (some 7) rfl rfl Tryz.func81 (by kernel_rfl) rfl #[.int .i64 a0, .int .i64 a1, .int .i64 648000] rfl (by (try simp only [b3, b4, b5]); first | done | rfl | (simp only [b0, b2]; rfl)) ?_; (with_reducible refine (impl_isUp.calls k a0 a1 648000 t294 _ A3.out).mono ?_); rintro e w4 ⟨rfl, hb⟩; refine ⟨_, rfl, ?_⟩; have n0_ := aa (af (by repeat (first | (with_reducible first | exact HB.out | apply ae | apply ab | apply ac) | exact HB.out)) hb); clear HB; have HB := n0_; clear n0_; (try clear hb); (try clear hb2); (try clear hk); (try clear hi)))
 go_ret; exact ⟨by first | rfl | (simp [errW_none, errW_some] <;> rfl) | (simp [*, errW_none, errW_some] <;> rfl), by repeat (first | (with_reducible first | exact HB.out | apply ae | apply ab | apply ac) | exact HB.out)⟩
def impl_settingCode.j0 : Nat → Int → Int → Bool → Option (Int)
 | 0, _, _, _ => none
 | k + 1, x0, x1, x5 => if x5 = true then (some 2) else ((impl_neverRises.f k x0 x1).bind fun t297 => (if t297 = true then (some 6) else ((impl_neverSets.f k x0 x1).bind fun t298 => (if t298 = true then (some 3) else (some 0)))))
def impl_settingCode.f (k : Nat) (a0 : Int) (a1 : Int) : Option (Int) := (impl_isLat.f a0).bind fun t295 => (if t295 = true then ((impl_isLat.f a1).bind fun t296 => (impl_settingCode.j0 k a0 a1 (!t296))) else (impl_settingCode.j0 k a0 a1 true))
theorem impl_settingCode.mono_l : ∀ k, (∀ y0 y1 y2, LeO (impl_settingCode.j0 k y0 y1 y2) (impl_settingCode.j0 (k + 1) y0 y1 y2))
 | 0 => fun _ _ _ r h => by simp [impl_settingCode.j0] at h
 | k + 1 => by
  have ih0 := impl_settingCode.mono_l k
  ·intro y0 y1 y2; unfold impl_settingCode.j0
   repeat' first
   | (with_reducible exact ih0 _ _ _)
   | (with_reducible exact impl_neverRises.mono _ _ _)
   | (with_reducible exact impl_neverSets.mono _ _ _)
   | (with_reducible exact LeO.refl _)
   | (with_reducible exact LeO.none _)
   | (with_reducible refine LeO.ite ?_ ?_)
   | (with_reducible refine LeO.bind ?_ (fun _ => ?_))
   | exact ih0 _ _ _
   | exact impl_neverRises.mono _ _ _
   | exact impl_neverSets.mono _ _ _
   | exact LeO.none _
   | refine LeO.ite ?_ ?_
   | refine LeO.bind ?_ (fun _ => ?_)
theorem impl_settingCode.mono : ∀ a0 a1 k, LeO (impl_settingCode.f k a0 a1) (impl_settingCode.f (k + 1) a0 a1) := by
 intro a0 a1 k; have ih0 := impl_settingCode.mono_l k; unfold impl_settingCode.f
 repeat' first
   | (with_reducible exact ih0 _ _ _)
   | (with_reducible exact impl_neverRises.mono _ _ _)
   | (with_reducible exact impl_neverSets.mono _ _ _)
   | (with_reducible exact LeO.refl _)
   | (with_reducible exact LeO.none _)
   | (with_reducible refine LeO.ite ?_ ?_)
   | (with_reducible refine LeO.bind ?_ (fun _ => ?_))
   | exact ih0 _ _ _
   | exact impl_neverRises.mono _ _ _
   | exact impl_neverSets.mono _ _ _
   | exact LeO.none _
   | refine LeO.ite ?_ ?_
   | refine LeO.bind ?_ (fun _ => ?_)
set_option maxHeartbeats 8000000 in
set_option maxRecDepth 100000 in
theorem impl_settingCode.calls (k : Nat) (a0 : Int) (a1 : Int) (r : Int) (w : World) (h : impl_settingCode.f k a0 a1 = some r) :
  Calls Tryz.prog 47 #[.int .i64 a0, .int .i64 a1] w fun e w' => e = .returned (.int .i64 r) ∧ Below w.heap.size w w' := by
 have HB := aa (Below.refl w.heap.size w); have H : ((impl_isLat.f a0).bind fun t295 => (if t295 = true then ((impl_isLat.f a1).bind fun t296 => (impl_settingCode.j0 k a0 a1 (!t296))) else (impl_settingCode.j0 k a0 a1 true))) = some r := h; clear h; have HC3 := aa H; clear H; go_enter Tryz.func47, Tryz.ntmps47
 go_upto_region 1 with (fail)
 go_cut [5] (fun v5 wc => ∃ (kq : Nat) (x5_2 : Bool), v5 = .bool x5_2 ∧ Aside0 (impl_settingCode.j0 kq a0 a1 x5_2 = some r) ∧ Aside0 (kq ≤ k) ∧ Aside0 (Below w.heap.size w wc))
 case first =>
  have H := HC3.out; clear HC3; replace H := bf.mp H; obtain ⟨t295, A40, H⟩ := H; (try dsimp only at H); have A4 := aa A40; clear A40; by_cases c5 : t295 = true
  ·subst c5; (have H1 : ((impl_isLat.f a1).bind fun t296 => (impl_settingCode.j0 k a0 a1 (!t296))) = some r := by rw [if_pos rfl] at H; exact H); clear H; have H := H1; clear H1; replace H := bf.mp H; obtain ⟨t296, A60, H⟩ := H; replace H : (impl_settingCode.j0 k a0 a1 (!t296)) = some r := H; have A6 := aa A60; clear A60; have H' := aa H; clear H
   go_wp2_with (first | ((with_reducible refine gate_callee (f := 78) rfl ?_); refine goesL_ (some 7) rfl rfl Tryz.func78 (by kernel_rfl) rfl #[.int .i64 a0] rfl (by (try simp only [b3, b4, b5]); first | done | rfl | (simp only [b0, b2]; rfl)) ?_; (with_reducible refine (impl_isLat.calls a0 true _ A4.out).mono ?_); rintro e w' ⟨rfl, ⟨nd, rfl⟩⟩; refine ⟨_, rfl, ?_⟩) | (go_at_call 78; (with_reducible refine (impl_isLat.calls a1 t296 _ A6.out).mono ?_); rintro e w' ⟨rfl, ⟨nd, rfl⟩⟩))
   go_meet
   case rel => exact ⟨_, (!t296), (by first | rfl | (simp; done) | (simp [*]; done)), H', ⟨by first | omega | exact Nat.le_refl _⟩, ⟨by repeat (first | (with_reducible first | exact HB.out | apply ae | apply ab | apply ac) | exact HB.out)⟩⟩
  ·replace c5 := Bool.eq_false_iff.mpr c5; subst c5; (have H1 : (impl_settingCode.j0 k a0 a1 true) = some r := by rw [if_neg (show ¬ (false = true) by decide)] at H; exact H); clear H; have H := H1; clear H1; have H' := aa H; clear H
   go_wp2_with (first | ((with_reducible refine gate_callee (f := 78) rfl ?_); refine goesL_ (some 7) rfl rfl Tryz.func78 (by kernel_rfl) rfl #[.int .i64 a0] rfl (by (try simp only [b3, b4, b5]); first | done | rfl | (simp only [b0, b2]; rfl)) ?_; (with_reducible refine (impl_isLat.calls a0 false _ A4.out).mono ?_); rintro e w' ⟨rfl, ⟨nd, rfl⟩⟩; refine ⟨_, rfl, ?_⟩))
   go_meet
   case rel => exact ⟨_, (true), (by first | rfl | (simp; done) | (simp [*]; done)), H', ⟨by first | omega | exact Nat.le_refl _⟩, ⟨by repeat (first | (with_reducible first | exact HB.out | apply ae | apply ab | apply ac) | exact HB.out)⟩⟩
 case rest =>
  clear HC3; (try clear p2); (try clear c4); (try clear c5); obtain ⟨kq, x5_2, rfl, HA, HJ2, HB⟩ := hcut
  cases kq with
  | zero => exact absurd HA.out (by simp [impl_settingCode.j0])
  | succ kj2 =>
   have H := HA.out; clear HA; simp only [impl_settingCode.j0] at H; by_cases c7 : x5_2 = true
   ·subst c7; (have H1 : (some 2) = some r := by rw [if_pos rfl] at H; exact H); clear H; have H := H1; clear H1; obtain rfl := Option.some.inj H; go_wp2; go_ret; exact ⟨by first | rfl | (simp [errW_none, errW_some] <;> rfl) | (simp [*, errW_none, errW_some] <;> rfl), by repeat (first | (with_reducible first | exact HB.out | apply ae | apply ab | apply ac) | exact HB.out)⟩
   ·replace c7 := Bool.eq_false_iff.mpr c7; subst c7; have H1 := H; rw [if_neg (show ¬ (false = true) by decide)] at H1; clear H; have H := H1; clear H1; replace H := bf.mp H; obtain ⟨t297, A80, H⟩ := H; (try dsimp only at H); have A8 := aa A80; clear A80; by_cases c9 : t297 = true
    ·subst c9; (have H1 : (some 6) = some r := by rw [if_pos rfl] at H; exact H); clear H; have H := H1; clear H1; obtain rfl := Option.some.inj H
     go_wp2_with (first | ((with_reducible refine gate_callee (f := 79) rfl ?_); refine goesL_ (some 17) rfl rfl Tryz.func79 (by kernel_rfl) rfl #[.int .i64 a0, .int .i64 a1] rfl (by (try simp only [b3, b4, b5]); first | done | rfl | (simp only [b0, b2]; rfl)) ?_; (with_reducible refine (impl_neverRises.calls kj2 a0 a1 true _ A8.out).mono ?_); rintro e w10 ⟨rfl, hb⟩; refine ⟨_, rfl, ?_⟩; have n0_ := aa (af (by repeat (first | (with_reducible first | exact HB.out | apply ae | apply ab | apply ac) | exact HB.out)) hb); clear HB; have HB := n0_; clear n0_; (try clear hb); (try clear hb2); (try clear hk); (try clear hi)))
     go_ret; exact ⟨by first | rfl | (simp [errW_none, errW_some] <;> rfl) | (simp [*, errW_none, errW_some] <;> rfl), by repeat (first | (with_reducible first | exact HB.out | apply ae | apply ab | apply ac) | exact HB.out)⟩
    ·replace c9 := Bool.eq_false_iff.mpr c9; subst c9; have H1 := H; rw [if_neg (show ¬ (false = true) by decide)] at H1; clear H; have H := H1; clear H1; replace H := bf.mp H; obtain ⟨t298, A110, H⟩ := H; replace H : (if t298 = true then (some 3) else (some 0)) = some r := H; have A11 := aa A110; clear A110; by_cases c12 : t298 = true
     ·subst c12; (have H1 : (some 3) = some r := by rw [if_pos rfl] at H; exact H); clear H; have H := H1; clear H1; obtain rfl := Option.some.inj H
      go_wp2_with (first | ((with_reducible refine gate_callee (f := 79) rfl ?_); refine goesL_ (some 17) rfl rfl Tryz.func79 (by kernel_rfl) rfl #[.int .i64 a0, .int .i64 a1] rfl (by (try simp only [b3, b4, b5]); first | done | rfl | (simp only [b0, b2]; rfl)) ?_; (with_reducible refine (impl_neverRises.calls kj2 a0 a1 false _ A8.out).mono ?_); rintro e w13 ⟨rfl, hb⟩; refine ⟨_, rfl, ?_⟩; have n0_ := aa (af (by repeat (first | (with_reducible first | exact HB.out | apply ae | apply ab | apply ac) | exact HB.out)) hb); clear HB; have HB := n0_; clear n0_; (try clear hb); (try clear hb2); (try clear hk); (try clear hi)) | ((with_reducible refine gate_callee (f := 80) rfl ?_); refine goesL_ (some 21) rfl rfl Tryz.func80 (by kernel_rfl) rfl #[.int .i64 a0, .int .i64 a1] rfl (by (try simp only [b3, b4, b5]); first | done | rfl | (simp only [b0, b2]; rfl)) ?_; (with_reducible refine (impl_neverSets.calls kj2 a0 a1 true _ A11.out).mono ?_); rintro e w14 ⟨rfl, hb⟩; refine ⟨_, rfl, ?_⟩; have n0_ := aa (af (by repeat (first | (with_reducible first | exact HB.out | apply ae | apply ab | apply ac) | exact HB.out)) hb); clear HB; have HB := n0_; clear n0_; (try clear hb); (try clear hb2); (try clear hk); (try clear hi)))
      go_ret; exact ⟨by first | rfl | (simp [errW_none, errW_some] <;> rfl) | (simp [*, errW_none, errW_some] <;> rfl), by repeat (first | (with_reducible first | exact HB.out | apply ae | apply ab | apply ac) | exact HB.out)⟩
     ·replace c12 := Bool.eq_false_iff.mpr c12; subst c12; (have H1 : (some 0) = some r := by rw [if_neg (show ¬ (false = true) by decide)] at H; exact H); clear H; have H := H1; clear H1; obtain rfl := Option.some.inj H
      go_wp2_with (first | ((with_reducible refine gate_callee (f := 79) rfl ?_); refine goesL_ (some 17) rfl rfl Tryz.func79 (by kernel_rfl) rfl #[.int .i64 a0, .int .i64 a1] rfl (by (try simp only [b3, b4, b5]); first | done | rfl | (simp only [b0, b2]; rfl)) ?_; (with_reducible refine (impl_neverRises.calls kj2 a0 a1 false _ A8.out).mono ?_); rintro e w15 ⟨rfl, hb⟩; refine ⟨_, rfl, ?_⟩; have n0_ := aa (af (by repeat (first | (with_reducible first | exact HB.out | apply ae | apply ab | apply ac) | exact HB.out)) hb); clear HB; have HB := n0_; clear n0_; (try clear hb); (try clear hb2); (try clear hk); (try clear hi)) | ((with_reducible refine gate_callee (f := 80) rfl ?_); refine goesL_ (some 21) rfl rfl Tryz.func80 (by kernel_rfl) rfl #[.int .i64 a0, .int .i64 a1] rfl (by (try simp only [b3, b4, b5]); first | done | rfl | (simp only [b0, b2]; rfl)) ?_; (with_reducible refine (impl_neverSets.calls kj2 a0 a1 false _ A11.out).mono ?_); rintro e w16 ⟨rfl, hb⟩; refine ⟨_, rfl, ?_⟩; have n0_ := aa (af (by repeat (first | (with_reducible first | exact HB.out | apply ae | apply ab | apply ac) | exact HB.out)) hb); clear HB; have HB := n0_; clear n0_; (try clear hb); (try clear hb2); (try clear hk); (try clear hi)))
      go_ret; exact ⟨by first | rfl | (simp [errW_none, errW_some] <;> rfl) | (simp [*, errW_none, errW_some] <;> rfl), by repeat (first | (with_reducible first | exact HB.out | apply ae | apply ab | apply ac) | exact HB.out)⟩
def impl_settingHour.l0 : Nat → Int → Int → Int → Int → Int → Option (Int)
 | 0, _, _, _, _, _ => none
 | k + 1, x0, x1, x2, x7, x8 => if x7 < x8 then ((impl_isUp.f k x0 x1 (wrap64 ((wrap64 (Int.tdiv (wrap64 (x7 + x8)) 2)) * x2))).bind fun t299 => (if t299 = true then (impl_settingHour.l0 k x0 x1 x2 (wrap64 ((wrap64 (Int.tdiv (wrap64 (x7 + x8)) 2)) + 1)) x8) else (impl_settingHour.l0 k x0 x1 x2 x7 (wrap64 (Int.tdiv (wrap64 (x7 + x8)) 2))))) else (some (wrap64 (x7 * x2)))
def impl_settingHour.f (k : Nat) (a0 : Int) (a1 : Int) (a2 : Int) : Option (Int) := if a2 = 0 then (none) else (impl_settingHour.l0 k a0 a1 a2 0 (wrap64 (Int.tdiv (648000 : Int) a2)))
theorem impl_settingHour.mono_l : ∀ k, (∀ y0 y1 y2 y3 y4, LeO (impl_settingHour.l0 k y0 y1 y2 y3 y4) (impl_settingHour.l0 (k + 1) y0 y1 y2 y3 y4))
 | 0 => fun _ _ _ _ _ r h => by simp [impl_settingHour.l0] at h
 | k + 1 => by
  have ih0 := impl_settingHour.mono_l k
  ·intro y0 y1 y2 y3 y4; unfold impl_settingHour.l0
   repeat' first
   | (with_reducible exact ih0 _ _ _ _ _)
   | (with_reducible exact impl_isUp.mono _ _ _ _)
   | (with_reducible exact LeO.refl _)
   | (with_reducible exact LeO.none _)
   | (with_reducible refine LeO.ite ?_ ?_)
   | (with_reducible refine LeO.bind ?_ (fun _ => ?_))
   | exact ih0 _ _ _ _ _
   | exact impl_isUp.mono _ _ _ _
   | exact LeO.none _
   | refine LeO.ite ?_ ?_
   | refine LeO.bind ?_ (fun _ => ?_)
theorem impl_settingHour.mono : ∀ a0 a1 a2 k, LeO (impl_settingHour.f k a0 a1 a2) (impl_settingHour.f (k + 1) a0 a1 a2) := by
 intro a0 a1 a2 k; have ih0 := impl_settingHour.mono_l k; unfold impl_settingHour.f
 repeat' first
   | (with_reducible exact ih0 _ _ _ _ _)
   | (with_reducible exact impl_isUp.mono _ _ _ _)
   | (with_reducible exact LeO.refl _)
   | (with_reducible exact LeO.none _)
   | (with_reducible refine LeO.ite ?_ ?_)
   | (with_reducible refine LeO.bind ?_ (fun _ => ?_))
   | exact ih0 _ _ _ _ _
   | exact impl_isUp.mono _ _ _ _
   | exact LeO.none _
   | refine LeO.ite ?_ ?_
   | refine LeO.bind ?_ (fun _ => ?_)
set_option maxHeartbeats 8000000 in
set_option maxRecDepth 100000 in
theorem impl_settingHour.calls (k : Nat) (a0 : Int) (a1 : Int) (a2 : Int) (r : Int) (w : World) (h : impl_settingHour.f k a0 a1 a2 = some r) :
  Calls Tryz.prog 48 #[.int .i64 a0, .int .i64 a1, .int .i64 a2] w fun e w' => e = .returned (.int .i64 r) ∧ Below w.heap.size w w' := by
 have HB := aa (Below.refl w.heap.size w); have H : (if a2 = 0 then (none) else (impl_settingHour.l0 k a0 a1 a2 0 (wrap64 (Int.tdiv (648000 : Int) a2)))) = some r := h; clear h; by_cases c4 : a2 = 0
 ·rw [if_pos c4] at H; exact absurd H (by simp)
 ·rw [if_neg c4] at H; have c4b0 : (a2 == 0) = false := beq_eq_false_iff_ne.mpr c4; have c4b1 : (a2 != 0) = true := bne_iff_ne.mpr c4; have H' := aa H; clear H; go_enter Tryz.func48, Tryz.ntmps48; go_wp2; (repeat (go_quiet (fail); try go_wp2))
  go_loopg [7, 8] k (fun kq v7 v8 w' => ∃ (x7_1 : Int) (x8_1 : Int), v7 = .int .i64 x7_1 ∧ v8 = .int .i64 x8_1 ∧ Aside0 (impl_settingHour.l0 kq a0 a1 a2 x7_1 x8_1 = some r) ∧ Aside0 (kq ≤ k) ∧ Aside0 (Below w.heap.size w w'))
  case atStart => exact ⟨(0), (wrap64 (Int.tdiv (648000 : Int) a2)), (by first | rfl | (simp; done) | (simp [*]; done)), (by first | rfl | (simp; done) | (simp [*]; done)), H', ⟨Nat.le_refl _⟩, ⟨by repeat (first | (with_reducible first | exact HB.out | apply ae | apply ab | apply ac) | exact HB.out)⟩⟩
  case round =>
   clear H'; (try clear p2); (try clear c4); (try clear c4b0); (try clear c4b1); obtain ⟨x7_1, x8_1, rfl, rfl, HA, HK1, HB⟩ := hrel
   cases gk with
   | zero => exact absurd HA.out (by simp [impl_settingHour.l0])
   | succ k1 =>
    have H := HA.out; clear HA; simp only [impl_settingHour.l0] at H; by_cases c5 : x7_1 < x8_1
    ·rw [if_pos c5] at H; have c5b0 : decide (x7_1 < x8_1) = true := decide_eq_true c5; clear c5; replace H := bf.mp H; obtain ⟨t299, A60, H⟩ := H; (try dsimp only at H); have A6 := aa A60; clear A60; by_cases c7 : t299 = true
     ·subst c7; have H1 := H; rw [if_pos rfl] at H1; clear H; have H := H1; clear H1; have H' := aa H; clear H
      go_wp2_with (first | (go_at_call 81; (with_reducible refine (impl_isUp.calls k1 a0 a1 (wrap64 ((wrap64 (Int.tdiv (wrap64 (x7_1 + x8_1)) 2)) * a2)) true _ A6.out).mono ?_); rintro e w8 ⟨rfl, hb⟩; have n0_ := aa (af (by repeat (first | (with_reducible first | exact HB.out | apply ae | apply ab | apply ac) | exact HB.out)) hb); clear HB; have HB := n0_; clear n0_; (try clear hb); (try clear hb2); (try clear hk); (try clear hi)))
      (repeat (go_quiet (first | (go_at_call 81; (with_reducible refine (impl_isUp.calls k1 a0 a1 (wrap64 ((wrap64 (Int.tdiv (wrap64 (x7_1 + x8_1)) 2)) * a2)) true _ A6.out).mono ?_); rintro e w8 ⟨rfl, hb⟩; have n0_ := aa (af (by repeat (first | (with_reducible first | exact HB.out | apply ae | apply ab | apply ac) | exact HB.out)) hb); clear HB; have HB := n0_; clear n0_; (try clear hb); (try clear hb2); (try clear hk); (try clear hi))); try go_wp2)); go_roundg k1
      case measure => have := HK1.out; omega
      case rel => exact ⟨(wrap64 ((wrap64 (Int.tdiv (wrap64 (x7_1 + x8_1)) 2)) + 1)), (x8_1), (by first | rfl | (simp; done) | (simp [*]; done)), (by first | rfl | (simp; done) | (simp [*]; done)), H', ⟨by have := HK1.out; omega⟩, ⟨by repeat (first | (with_reducible first | exact HB.out | apply ae | apply ab | apply ac) | exact HB.out)⟩⟩
     ·replace c7 := Bool.eq_false_iff.mpr c7; subst c7; have H1 := H; rw [if_neg (show ¬ (false = true) by decide)] at H1; clear H; have H := H1; clear H1; have H' := aa H; clear H
      go_wp2_with (first | (go_at_call 81; (with_reducible refine (impl_isUp.calls k1 a0 a1 (wrap64 ((wrap64 (Int.tdiv (wrap64 (x7_1 + x8_1)) 2)) * a2)) false _ A6.out).mono ?_); rintro e w9 ⟨rfl, hb⟩; have n0_ := aa (af (by repeat (first | (with_reducible first | exact HB.out | apply ae | apply ab | apply ac) | exact HB.out)) hb); clear HB; have HB := n0_; clear n0_; (try clear hb); (try clear hb2); (try clear hk); (try clear hi)))
      (repeat (go_quiet (first | (go_at_call 81; (with_reducible refine (impl_isUp.calls k1 a0 a1 (wrap64 ((wrap64 (Int.tdiv (wrap64 (x7_1 + x8_1)) 2)) * a2)) false _ A6.out).mono ?_); rintro e w9 ⟨rfl, hb⟩; have n0_ := aa (af (by repeat (first | (with_reducible first | exact HB.out | apply ae | apply ab | apply ac) | exact HB.out)) hb); clear HB; have HB := n0_; clear n0_; (try clear hb); (try clear hb2); (try clear hk); (try clear hi))); try go_wp2)); go_roundg k1
      case measure => have := HK1.out; omega
      case rel => exact ⟨(x7_1), (wrap64 (Int.tdiv (wrap64 (x7_1 + x8_1)) 2)), (by first | rfl | (simp; done) | (simp [*]; done)), (by first | rfl | (simp; done) | (simp [*]; done)), H', ⟨by have := HK1.out; omega⟩, ⟨by repeat (first | (with_reducible first | exact HB.out | apply ae | apply ab | apply ac) | exact HB.out)⟩⟩
    ·rw [if_neg c5] at H; have c5b0 : decide (x7_1 < x8_1) = false := decide_eq_false c5; clear c5; obtain rfl := Option.some.inj H; go_wp2; (repeat (go_quiet (fail); try go_wp2)); go_ret; exact ⟨by first | rfl | (simp [errW_none, errW_some] <;> rfl) | (simp [*, errW_none, errW_some] <;> rfl), by repeat (first | (with_reducible first | exact HB.out | apply ae | apply ab | apply ac) | exact HB.out)⟩
def impl_SettingHour.f (k : Nat) (a0 : Int) (a1 : Int) : Option (Int × Int) := (impl_settingCode.f k a0 a1).bind fun t300 => (if t300 = 0 then ((impl_settingHour.f k a0 a1 1).bind fun t301 => (some (t301, 0))) else (some (0, t300)))
theorem impl_SettingHour.mono : ∀ a0 a1 k, LeO (impl_SettingHour.f k a0 a1) (impl_SettingHour.f (k + 1) a0 a1) := by
 intro a0 a1 k; unfold impl_SettingHour.f
 repeat' first
   | (with_reducible exact impl_settingCode.mono _ _ _)
   | (with_reducible exact impl_settingHour.mono _ _ _ _)
   | (with_reducible exact LeO.refl _)
   | (with_reducible exact LeO.none _)
   | (with_reducible refine LeO.ite ?_ ?_)
   | (with_reducible refine LeO.bind ?_ (fun _ => ?_))
   | exact impl_settingCode.mono _ _ _
   | exact impl_settingHour.mono _ _ _ _
   | exact LeO.none _
   | refine LeO.ite ?_ ?_
   | refine LeO.bind ?_ (fun _ => ?_)
set_option maxHeartbeats 8000000 in
set_option maxRecDepth 100000 in
theorem impl_SettingHour.calls (k : Nat) (a0 : Int) (a1 : Int) (r1 : Int) (r2 : Int) (w : World) (h : impl_SettingHour.f k a0 a1 = some (r1, r2)) :
  Calls Tryz.prog 18 #[.int .i64 a0, .int .i64 a1] w fun e w' => e = .returned (.tuple #[.int .i64 r1, .int .i64 r2]) ∧ Below w.heap.size w w' := by
 have HB := aa (Below.refl w.heap.size w); have H : ((impl_settingCode.f k a0 a1).bind fun t300 => (if t300 = 0 then ((impl_settingHour.f k a0 a1 1).bind fun t301 => (some (t301, 0))) else (some (0, t300)))) = some (r1, r2) := h; clear h; replace H := bf.mp H; obtain ⟨t300, A30, H⟩ := H; (try dsimp only at H); have A3 := aa A30; clear A30; by_cases c4 : t300 = 0
 ·rw [if_pos c4] at H; have c4b0 : (t300 == 0) = true := beq_iff_eq.mpr c4; have c4b1 : (t300 != 0) = false := bne_eq_false_iff_eq.mpr c4; clear c4; replace H := bf.mp H; obtain ⟨t301, A50, H⟩ := H; replace H : (some (t301, 0)) = some (r1, r2) := H; have A5 := aa A50; clear A50; simp only [Option.some.injEq, Prod.mk.injEq] at H; obtain ⟨rfl, rfl⟩ := H; go_enter Tryz.func18, Tryz.ntmps18
  go_wp2_with (first | ((with_reducible refine gate_callee (f := 47) rfl ?_); refine goesL_ (some 9) rfl rfl Tryz.func47 (by kernel_rfl) rfl #[.int .i64 a0, .int .i64 a1] rfl (by (try simp only [b3, b4, b5]); first | done | rfl | (simp only [b0, b2]; rfl)) ?_; (with_reducible refine (impl_settingCode.calls k a0 a1 t300 _ A3.out).mono ?_); rintro e w6 ⟨rfl, hb⟩; refine ⟨_, rfl, ?_⟩; have n0_ := aa (af (by repeat (first | (with_reducible first | exact HB.out | apply ae | apply ab | apply ac) | exact HB.out)) hb); clear HB; have HB := n0_; clear n0_; (try clear hb); (try clear hb2); (try clear hk); (try clear hi)) | ((with_reducible refine gate_callee (f := 48) rfl ?_); refine goesL_ (some 15) rfl rfl Tryz.func48 (by kernel_rfl) rfl #[.int .i64 a0, .int .i64 a1, .int .i64 1] rfl (by (try simp only [b3, b4, b5]); first | done | rfl | (simp only [b0, b2]; rfl)) ?_; (with_reducible refine (impl_settingHour.calls k a0 a1 1 t301 _ A5.out).mono ?_); rintro e w7 ⟨rfl, hb⟩; refine ⟨_, rfl, ?_⟩; have n0_ := aa (af (by repeat (first | (with_reducible first | exact HB.out | apply ae | apply ab | apply ac) | exact HB.out)) hb); clear HB; have HB := n0_; clear n0_; (try clear hb); (try clear hb2); (try clear hk); (try clear hi)))
  go_ret2; exact ⟨by first | rfl | (simp [errW_none, errW_some] <;> rfl) | (simp [*, errW_none, errW_some] <;> rfl), by repeat (first | (with_reducible first | exact HB.out | apply ae | apply ab | apply ac) | exact HB.out)⟩
 ·rw [if_neg c4] at H; have c4b0 : (t300 == 0) = false := beq_eq_false_iff_ne.mpr c4; have c4b1 : (t300 != 0) = true := bne_iff_ne.mpr c4; simp only [Option.some.injEq, Prod.mk.injEq] at H; obtain ⟨rfl, rfl⟩ := H; go_enter Tryz.func18, Tryz.ntmps18
  go_wp2_with (first | ((with_reducible refine gate_callee (f := 47) rfl ?_); refine goesL_ (some 9) rfl rfl Tryz.func47 (by kernel_rfl) rfl #[.int .i64 a0, .int .i64 a1] rfl (by (try simp only [b3, b4, b5]); first | done | rfl | (simp only [b0, b2]; rfl)) ?_; (with_reducible refine (impl_settingCode.calls k a0 a1 t300 _ A3.out).mono ?_); rintro e w8 ⟨rfl, hb⟩; refine ⟨_, rfl, ?_⟩; have n0_ := aa (af (by repeat (first | (with_reducible first | exact HB.out | apply ae | apply ab | apply ac) | exact HB.out)) hb); clear HB; have HB := n0_; clear n0_; (try clear hb); (try clear hb2); (try clear hk); (try clear hi)))
  go_ret2; exact ⟨by first | rfl | (simp [errW_none, errW_some] <;> rfl) | (simp [*, errW_none, errW_some] <;> rfl), by repeat (first | (with_reducible first | exact HB.out | apply ae | apply ab | apply ac) | exact HB.out)⟩
end Go.Proofs.YtmgljagkmaoopaaGreat.QFnTopOfAll
