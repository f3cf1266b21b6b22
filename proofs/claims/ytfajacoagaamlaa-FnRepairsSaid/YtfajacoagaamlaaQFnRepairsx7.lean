/- Walks of the Go functions that the law FnRepairs reaches: written by a program of this session. -/
import Derived.Test.YtfajacoagaamlaaQFnRepairsx0
import Derived.Test.YtfajacoagaamlaaQFnRepairsx3
import Derived.Test.YtfajacoagaamlaaQFnRepairsx6
namespace Go.Proofs.Ytfajacoagaamlaa.QFnRepairs
open Go.RowKit Go.Proofs.YtfajacoagaamlaaW.PrintWords Go.Proofs.YtfajacoagaamlaaW.PrintLast Go.Proofs.YtfajacoagaamlaaW.PrintMore
attribute [local go_sem] max2_int min2_int max_two min_two max_three min_three max_four min_four   -- for this text's walks alone
open Go.Proofs.YtfajacoagaamlaaW.PrintWords renaming add_block → bg, below_alloc → ah, below_drew1 → ag, below_set → ao, below_size → ar, below_step → ay, blk_alloc → bi, blk_cell → be, blk_drew → bk, blk_drewN → bh, blk_frozen → bb, keep_alloc → av, keep_drew → ax, keep_drewN → au, pw_below_drewN → ae
open Go.Proofs.YtfajacoagaamlaaW.PrintWords.Aside0 renaming mk → aa
open Go.Proofs.YtfajacoagaamlaaW.PrintWords.Kd renaming C_alloc → ak, C_drew → am, C_drewN → al, R_alloc → ab, R_base → az, R_below → aq, R_drew → af, R_drewN → ac, R_elder' → aw, R_keep → bf, R_lower → bd, R_lt → bc, R_mono → an, R_new' → ba, R_reads' → ai, R_slice → ap, at_int → bj
open Option renaming bind_eq_some_iff → bm
set_option linter.unusedVariables false
set_option linter.unusedSimpArgs false

/-! ### spec_l22Draw: function 84 -/
mutual
def spec_l22Draw.j0 : Nat → Int → List Int → Int → Int → Option (List Int × Int × Int)
 | 0, _, _, _, _ => none
 | k + 1, x3, x1000, x1001, x1002 => (spec_l22New.f k x1000 x1001 x1002 x3).bind fun bt245 => (if x3 > 0 then ((spec_l00Src_one.f x1000 bt245.2.1 bt245.2.2 12).bind fun bt250 => (spec_l22Draw.j1 k x3 bt245.1 bt250.1 x1000 bt250.2.1 bt250.2.2)) else (spec_l22Draw.j1 k x3 bt245.1 false x1000 bt245.2.1 bt245.2.2))
def spec_l22Draw.j1 : Nat → Int → List Int → Bool → List Int → Int → Int → Option (List Int × Int × Int)
 | 0, _, _, _, _, _, _ => none
 | k + 1, x3, x4, x20, x1000, x1001, x1002 => if x20 = true then ((spec_l00Src_pick.f x1000 x1001 x1002 x3).bind fun bt253 => ((spec_l00Src_among.f x1000 bt253.2.1 bt253.2.2 (([(-1), 0, 3, 4, (-9223372036854775808)] : List Int))).bind fun bt259 => (if 0 ≤ bt253.1 then (if bt253.1 < (x4.length : Int) then (some ((x4.set (bt253.1 : Int).toNat bt259.1), bt259.2.1, bt259.2.2)) else (none)) else (none)))) else (some (x4, x1001, x1002))
end
def spec_l22Draw.f (k : Nat) (s0_0 : List Int) (s0_1 : Int) (s0_2 : Int) : Option (List Int × Int × Int) := (spec_l00Src_pick.f s0_0 s0_1 s0_2 9).bind fun bt236 => ((spec_l00Src_one.f s0_0 bt236.2.1 bt236.2.2 20).bind fun bt239 => (if bt239.1 = true then ((spec_l00Src_pick.f s0_0 bt239.2.1 bt239.2.2 2).bind fun bt242 => (spec_l22Draw.j0 k (wrap64 (40 + bt242.1)) s0_0 bt242.2.1 bt242.2.2)) else (spec_l22Draw.j0 k bt236.1 s0_0 bt239.2.1 bt239.2.2)))
theorem spec_l22Draw.mono_l : ∀ k, (∀ y0 y1 y2 y3, LeO (spec_l22Draw.j0 k y0 y1 y2 y3) (spec_l22Draw.j0 (k + 1) y0 y1 y2 y3)) ∧ (∀ y0 y1 y2 y3 y4 y5, LeO (spec_l22Draw.j1 k y0 y1 y2 y3 y4 y5) (spec_l22Draw.j1 (k + 1) y0 y1 y2 y3 y4 y5))
 | 0 => ⟨fun _ _ _ _ r h => by simp [spec_l22Draw.j0] at h, fun _ _ _ _ _ _ r h => by simp [spec_l22Draw.j1] at h⟩
 | k + 1 => by
  obtain ⟨ih0, ih1⟩ := spec_l22Draw.mono_l k
  refine ⟨?_, ?_⟩
  ·intro y0 y1 y2 y3
   unfold spec_l22Draw.j0
   repeat' first
   | (with_reducible exact ih0 _ _ _ _)
   | (with_reducible exact ih1 _ _ _ _ _ _)
   | (with_reducible exact spec_l22New.mono _ _ _ _ _)
   | (with_reducible exact LeO.refl _)
   | (with_reducible exact LeO.none _)
   | (with_reducible refine LeO.ite ?_ ?_)
   | (with_reducible refine LeO.bind ?_ (fun _ => ?_))
   | exact ih0 _ _ _ _
   | exact ih1 _ _ _ _ _ _
   | exact spec_l22New.mono _ _ _ _ _
   | exact LeO.none _
   | refine LeO.ite ?_ ?_
   | refine LeO.bind ?_ (fun _ => ?_)
  ·intro y0 y1 y2 y3 y4 y5
   unfold spec_l22Draw.j1
   repeat' first
   | (with_reducible exact ih0 _ _ _ _)
   | (with_reducible exact ih1 _ _ _ _ _ _)
   | (with_reducible exact spec_l22New.mono _ _ _ _ _)
   | (with_reducible exact LeO.refl _)
   | (with_reducible exact LeO.none _)
   | (with_reducible refine LeO.ite ?_ ?_)
   | (with_reducible refine LeO.bind ?_ (fun _ => ?_))
   | exact ih0 _ _ _ _
   | exact ih1 _ _ _ _ _ _
   | exact spec_l22New.mono _ _ _ _ _
   | exact LeO.none _
   | refine LeO.ite ?_ ?_
   | refine LeO.bind ?_ (fun _ => ?_)
theorem spec_l22Draw.mono : ∀ a0 a1 a2 k, LeO (spec_l22Draw.f k a0 a1 a2) (spec_l22Draw.f (k + 1) a0 a1 a2) := by
 intro a0 a1 a2 k
 obtain ⟨ih0, ih1⟩ := spec_l22Draw.mono_l k
 unfold spec_l22Draw.f
 repeat' first
   | (with_reducible exact ih0 _ _ _ _)
   | (with_reducible exact ih1 _ _ _ _ _ _)
   | (with_reducible exact spec_l22New.mono _ _ _ _ _)
   | (with_reducible exact LeO.refl _)
   | (with_reducible exact LeO.none _)
   | (with_reducible refine LeO.ite ?_ ?_)
   | (with_reducible refine LeO.bind ?_ (fun _ => ?_))
   | exact ih0 _ _ _ _
   | exact ih1 _ _ _ _ _ _
   | exact spec_l22New.mono _ _ _ _ _
   | exact LeO.none _
   | refine LeO.ite ?_ ?_
   | refine LeO.bind ?_ (fun _ => ?_)
set_option maxHeartbeats 8000000 in
set_option maxRecDepth 100000 in
theorem spec_l22Draw.calls (k : Nat) (g : Nat) (s0_0 : List Int) (s0_1 : Int) (s0_2 : Int) (r1 : List Int) (r2 : Int) (r3 : Int) (w0 w : World) (hI : IsS102 w0 w g s0_0 s0_1 s0_2) (hB : Below w0.heap.size w0 w) (h : spec_l22Draw.f k s0_0 s0_1 s0_2 = some (r1, r2, r3)) :
  Calls Try.prog 84 #[.pointer (some ⟨g, 0, none⟩)] w fun e w' => ∃ v0_ : Value, e = .returned (v0_) ∧ Kd.R (Kd.int .i64) 2 w' w.heap.size (fun _ => True) v0_ r1 ∧ IsS102 w0 w' g s0_0 r2 r3 ∧ Below w0.heap.size w0 w' ∧ KeepBut w w' g none := by
 have HI0 := aa hI
 have HK := aa (KeepBut.refl w g none)
 have HL := aa hB.size
 clear hI
 have HW0 := aa hB.size
 have HB := aa hB
 clear hB
 have H : ((spec_l00Src_pick.f s0_0 s0_1 s0_2 9).bind fun bt236 => ((spec_l00Src_one.f s0_0 bt236.2.1 bt236.2.2 20).bind fun bt239 => (if bt239.1 = true then ((spec_l00Src_pick.f s0_0 bt239.2.1 bt239.2.2 2).bind fun bt242 => (spec_l22Draw.j0 k (wrap64 (40 + bt242.1)) s0_0 bt242.2.1 bt242.2.2)) else (spec_l22Draw.j0 k bt236.1 s0_0 bt239.2.1 bt239.2.2)))) = some (r1, r2, r3) := h
 clear h
 replace H := bm.mp H
 obtain ⟨⟨t236, t237, t238⟩, A20, H⟩ := H
 (try dsimp only at H)
 have A2 := aa A20
 clear A20
 replace H := bm.mp H
 obtain ⟨⟨t239, t240, t241⟩, A30, H⟩ := H
 (try dsimp only at H)
 have A3 := aa A30
 clear A30
 have HC4 := aa H
 clear H
 go_enter Try.func84, Try.ntmps84
 go_upto_if 8 with (first | ((with_reducible refine gate_callee (f := 88) rfl ?_); refine goesL_ (some 6) rfl rfl Try.func88 (by kernel_rfl) rfl #[.pointer (some ⟨g, 0, none⟩), .int .i64 9] rfl (by (try simp only [List.map_toArray, List.map_cons, List.map_nil]); first | done | rfl | (simp only [List.length_drop, List.length_take]; rfl)) ?_; (with_reducible refine (spec_l00Src_pick.calls g s0_0 s0_1 s0_2 9 t236 t237 t238 w0 _ ?side1 ?side2 A2.out).mono ?_); (case side1 => repeat (first | (with_reducible first | exact HI0.out | apply IsS102.alloc | apply IsS102.drewN | apply IsS102.drew | apply IsS102.set_1 | apply IsS102.set_2) | exact HI0.out)); (case side2 => repeat (first | (with_reducible first | exact HB.out | apply ah | apply ae | apply ag | refine ao ?_ (IsS102.ge HI0.out)) | exact HB.out)); rintro e w5 ⟨rfl, hi, hb, hk⟩; refine ⟨_, rfl, ?_⟩; have n0_ := aa (KeepBut.trans (by repeat (first | (with_reducible first | exact HK.out | apply KeepBut.set_ | apply au | apply ax | apply av) | exact HK.out)) hk (.inl rfl)); have n1_ := aa (hb); have n2_ := aa (hi); clear HK; clear HB; clear HI0; have HK := n0_; have HB := n1_; have HI0 := n2_; clear n0_ n1_ n2_; (try clear hb); (try clear hb2); (try clear hk); (try clear hi)) | ((with_reducible refine gate_callee (f := 111) rfl ?_); refine goesL_ (some 8) rfl rfl Try.func111 (by kernel_rfl) rfl #[.pointer (some ⟨g, 0, none⟩), .int .i64 20] rfl (by (try simp only [List.map_toArray, List.map_cons, List.map_nil]); first | done | rfl | (simp only [List.length_drop, List.length_take]; rfl)) ?_; (with_reducible refine (spec_l00Src_one.calls g s0_0 t237 t238 20 t239 t240 t241 w0 _ ?side1 ?side2 A3.out).mono ?_); (case side1 => repeat (first | (with_reducible first | exact HI0.out | apply IsS102.alloc | apply IsS102.drewN | apply IsS102.drew | apply IsS102.set_1 | apply IsS102.set_2) | exact HI0.out)); (case side2 => repeat (first | (with_reducible first | exact HB.out | apply ah | apply ae | apply ag | refine ao ?_ (IsS102.ge HI0.out)) | exact HB.out)); rintro e w6 ⟨rfl, hi, hb, hk⟩; refine ⟨_, rfl, ?_⟩; have n0_ := aa (KeepBut.trans (by repeat (first | (with_reducible first | exact HK.out | apply KeepBut.set_ | apply au | apply ax | apply av) | exact HK.out)) hk (.inl rfl)); have n1_ := aa (hb); have n2_ := aa (hi); clear HK; clear HB; clear HI0; have HK := n0_; have HB := n1_; have HI0 := n2_; clear n0_ n1_ n2_; (try clear hb); (try clear hb2); (try clear hk); (try clear hi)))
 (try simp only [Act.put, List.setIfInBounds_toArray, List.set_cons_zero, List.set_cons_succ])
 go_cut [3] (fun v3 wc => ∃ (kq : Nat) (x3_3 : Int) (x1001_3 : Int) (x1002_3 : Int), v3 = .int .i64 x3_3 ∧ Aside0 (spec_l22Draw.j0 kq x3_3 s0_0 x1001_3 x1002_3 = some (r1, r2, r3)) ∧ Aside0 (kq ≤ k) ∧ Aside0 (IsS102 w0 wc g s0_0 x1001_3 x1002_3) ∧ Aside0 (KeepBut w wc g none) ∧ Aside0 (Below w0.heap.size w0 wc))
 case first =>
  have H := HC4.out
  clear HC4
  by_cases c7 : t239 = true
  ·subst c7
   have H1 := H; rw [if_pos rfl] at H1
   clear H
   have H := H1
   clear H1
   replace H := bm.mp H
   obtain ⟨⟨t242, t243, t244⟩, A80, H⟩ := H
   replace H : (spec_l22Draw.j0 k (wrap64 (40 + t242)) s0_0 t243 t244) = some (r1, r2, r3) := H
   have A8 := aa A80
   clear A80
   have H' := aa H
   clear H
   go_wp2_with (first | ((with_reducible refine gate_callee (f := 88) rfl ?_); refine goesL_ (some 10) rfl rfl Try.func88 (by kernel_rfl) rfl #[.pointer (some ⟨g, 0, none⟩), .int .i64 2] rfl (by (try simp only [List.map_toArray, List.map_cons, List.map_nil]); first | done | rfl | (simp only [List.length_drop, List.length_take]; rfl)) ?_; (with_reducible refine (spec_l00Src_pick.calls g s0_0 t240 t241 2 t242 t243 t244 w0 _ ?side1 ?side2 A8.out).mono ?_); (case side1 => repeat (first | (with_reducible first | exact HI0.out | apply IsS102.alloc | apply IsS102.drewN | apply IsS102.drew | apply IsS102.set_1 | apply IsS102.set_2) | exact HI0.out)); (case side2 => repeat (first | (with_reducible first | exact HB.out | apply ah | apply ae | apply ag | refine ao ?_ (IsS102.ge HI0.out)) | exact HB.out)); rintro e w9 ⟨rfl, hi, hb, hk⟩; refine ⟨_, rfl, ?_⟩; have n0_ := aa (KeepBut.trans (by repeat (first | (with_reducible first | exact HK.out | apply KeepBut.set_ | apply au | apply ax | apply av) | exact HK.out)) hk (.inl rfl)); have n1_ := aa (hb); have n2_ := aa (hi); clear HK; clear HB; clear HI0; have HK := n0_; have HB := n1_; have HI0 := n2_; clear n0_ n1_ n2_; (try clear hb); (try clear hb2); (try clear hk); (try clear hi)))
   go_meet
   case rel => exact ⟨_, (wrap64 (40 + t242)), (t243), (t244), (by first | rfl | (simp; done) | (simp [*]; done)), H', ⟨by first | omega | exact Nat.le_refl _⟩, ⟨by repeat (first | (with_reducible first | exact HI0.out | apply IsS102.alloc | apply IsS102.drewN | apply IsS102.drew | apply IsS102.set_1 | apply IsS102.set_2) | exact HI0.out)⟩, ⟨by repeat (first | (with_reducible first | exact HK.out | apply KeepBut.set_ | apply au | apply ax | apply av) | exact HK.out)⟩, ⟨by repeat (first | (with_reducible first | exact HB.out | apply ah | apply ae | apply ag | refine ao ?_ (IsS102.ge HI0.out)) | exact HB.out)⟩⟩
  ·replace c7 := Bool.eq_false_iff.mpr c7
   subst c7
   have H1 : (spec_l22Draw.j0 k t236 s0_0 t240 t241) = some (r1, r2, r3) := by rw [if_neg (show ¬ (false = true) by decide)] at H; exact H
   clear H
   have H := H1
   clear H1
   have H' := aa H
   clear H
   go_wp2
   go_meet
   case rel => exact ⟨_, (t236), (t240), (t241), (by first | rfl | (simp; done) | (simp [*]; done)), H', ⟨by first | omega | exact Nat.le_refl _⟩, ⟨by repeat (first | (with_reducible first | exact HI0.out | apply IsS102.alloc | apply IsS102.drewN | apply IsS102.drew | apply IsS102.set_1 | apply IsS102.set_2) | exact HI0.out)⟩, ⟨by repeat (first | (with_reducible first | exact HK.out | apply KeepBut.set_ | apply au | apply ax | apply av) | exact HK.out)⟩, ⟨by repeat (first | (with_reducible first | exact HB.out | apply ah | apply ae | apply ag | refine ao ?_ (IsS102.ge HI0.out)) | exact HB.out)⟩⟩
 case rest =>
  clear HC4
  try clear c1
  try clear p2
  try clear p6
  try clear c7
  try clear c8
  obtain ⟨kq, x3_3, x1001_3, x1002_3, rfl, HA, HJ3, HI0, HK, HB⟩ := hcut
  cases kq with
  | zero => exact absurd HA.out (by simp [spec_l22Draw.j0])
  | succ kj3 =>
   have H := HA.out
   clear HA
   simp only [spec_l22Draw.j0] at H
   replace H := bm.mp H
   obtain ⟨⟨t245, t248, t249⟩, A100, H⟩ := H
   (try dsimp only at H)
   have A10 := aa A100
   clear A100
   have HC11 := aa H
   clear H
   go_upto_region 5 with (first | ((with_reducible refine gate_callee (f := 87) rfl ?_); refine goesL_ (some 14) rfl rfl Try.func87 (by kernel_rfl) rfl #[.pointer (some ⟨g, 0, none⟩), .int .i64 x3_3] rfl (by (try simp only [List.map_toArray, List.map_cons, List.map_nil]); first | done | rfl | (simp only [List.length_drop, List.length_take]; rfl)) ?_; (with_reducible refine (spec_l22New.calls kj3 g s0_0 x1001_3 x1002_3 x3_3 t245 t248 t249 w0 _ ?side1 ?side2 A10.out).mono ?_); (case side1 => repeat (first | (with_reducible first | exact HI0.out | apply IsS102.alloc | apply IsS102.drewN | apply IsS102.drew | apply IsS102.set_1 | apply IsS102.set_2) | exact HI0.out)); (case side2 => repeat (first | (with_reducible first | exact HB.out | apply ah | apply ae | apply ag | refine ao ?_ (IsS102.ge HI0.out)) | exact HB.out)); rintro e w12 ⟨v246, rfl, ho0, hi, hb, hk⟩; refine ⟨_, rfl, ?_⟩; have n0_ := aa (bd ho0 (keep_size (w := w) (g := g) (row := none) (by repeat (first | (with_reducible first | exact HK.out | apply KeepBut.set_ | apply au | apply ax | apply av) | exact HK.out)))); have n1_ := aa (KeepBut.trans (by repeat (first | (with_reducible first | exact HK.out | apply KeepBut.set_ | apply au | apply ax | apply av) | exact HK.out)) hk (.inl rfl)); have n2_ := aa (hb); have n3_ := aa (hi); clear HK; clear HB; clear HI0; have HO247 := n0_; have HK := n1_; have HB := n2_; have HI0 := n3_; clear n0_ n1_ n2_ n3_; (try clear hb); (try clear hb2); (try clear hk); (try clear hi); (try clear ho0)))
   (try simp only [Act.put, List.setIfInBounds_toArray, List.set_cons_zero, List.set_cons_succ])
   go_cut [20] (fun v20 wc => ∃ (kq : Nat) (x20_10 : Bool) (x1001_10 : Int) (x1002_10 : Int), v20 = .bool x20_10 ∧ Aside0 (spec_l22Draw.j1 kq x3_3 t245 x20_10 s0_0 x1001_10 x1002_10 = some (r1, r2, r3)) ∧ Aside0 (kq ≤ kj3) ∧ Aside0 (Kd.R (Kd.int .i64) 2 wc w.heap.size (fun _ => True) v246 t245) ∧ Aside0 (IsS102 w0 wc g s0_0 x1001_10 x1002_10) ∧ Aside0 (KeepBut w wc g none) ∧ Aside0 (Below w0.heap.size w0 wc))
   case first =>
    have H := HC11.out
    clear HC11
    by_cases c13 : x3_3 > 0
    ·rw [if_pos c13] at H
     have c13b0 : decide (0 < x3_3) = true := decide_eq_true c13
     clear c13
     (first | rw [c13b0] | (simp only [i64_w, i32_w]; rw [c13b0]) | skip)
     replace H := bm.mp H
     obtain ⟨⟨t250, t251, t252⟩, A140, H⟩ := H
     replace H : (spec_l22Draw.j1 kj3 x3_3 t245 t250 s0_0 t251 t252) = some (r1, r2, r3) := H
     have A14 := aa A140
     clear A140
     have H' := aa H
     clear H
     go_wp2_with (first | (go_at_call 111; (with_reducible refine (spec_l00Src_one.calls g s0_0 t248 t249 12 t250 t251 t252 w0 _ ?side1 ?side2 A14.out).mono ?_); (case side1 => repeat (first | (with_reducible first | exact HI0.out | apply IsS102.alloc | apply IsS102.drewN | apply IsS102.drew | apply IsS102.set_1 | apply IsS102.set_2) | exact HI0.out)); (case side2 => repeat (first | (with_reducible first | exact HB.out | apply ah | apply ae | apply ag | refine ao ?_ (IsS102.ge HI0.out)) | exact HB.out)); rintro e w15 ⟨rfl, hi, hb, hk⟩; have n0_ := aa (an (bf (IsS102.apart (show IsS102 w0 _ g s0_0 t248 t249 from by repeat (first | (with_reducible first | exact HI0.out | apply IsS102.alloc | apply IsS102.drewN | apply IsS102.drew | apply IsS102.set_1 | apply IsS102.set_2) | exact HI0.out)) (by (with_reducible repeat (first | apply ab | apply ac | apply af)); exact HO247.out) (by decide)) hk (fun _ h => h.2)) (fun _ h => h.1)); have n1_ := aa (KeepBut.trans (by repeat (first | (with_reducible first | exact HK.out | apply KeepBut.set_ | apply au | apply ax | apply av) | exact HK.out)) hk (.inl rfl)); have n2_ := aa (hb); have n3_ := aa (hi); clear HO247; clear HK; clear HB; clear HI0; have HO247 := n0_; have HK := n1_; have HB := n2_; have HI0 := n3_; clear n0_ n1_ n2_ n3_; (try clear hb); (try clear hb2); (try clear hk); (try clear hi)))
     go_meet
     case rel => exact ⟨_, (t250), (t251), (t252), (by first | rfl | (simp; done) | (simp [*]; done)), H', ⟨by have := HJ3.out; first | omega | exact Nat.le_refl _⟩, ⟨by (with_reducible repeat (first | apply ab | apply ac | apply af)); exact HO247.out⟩, ⟨by repeat (first | (with_reducible first | exact HI0.out | apply IsS102.alloc | apply IsS102.drewN | apply IsS102.drew | apply IsS102.set_1 | apply IsS102.set_2) | exact HI0.out)⟩, ⟨by repeat (first | (with_reducible first | exact HK.out | apply KeepBut.set_ | apply au | apply ax | apply av) | exact HK.out)⟩, ⟨by repeat (first | (with_reducible first | exact HB.out | apply ah | apply ae | apply ag | refine ao ?_ (IsS102.ge HI0.out)) | exact HB.out)⟩⟩
    ·rw [if_neg c13] at H
     have c13b0 : decide (0 < x3_3) = false := decide_eq_false c13
     clear c13
     (first | rw [c13b0] | (simp only [i64_w, i32_w]; rw [c13b0]) | skip)
     have H' := aa H
     clear H
     go_wp2
     go_meet
     case rel => exact ⟨_, (false), (t248), (t249), (by first | rfl | (simp; done) | (simp [*]; done)), H', ⟨by have := HJ3.out; first | omega | exact Nat.le_refl _⟩, ⟨by (with_reducible repeat (first | apply ab | apply ac | apply af)); exact HO247.out⟩, ⟨by repeat (first | (with_reducible first | exact HI0.out | apply IsS102.alloc | apply IsS102.drewN | apply IsS102.drew | apply IsS102.set_1 | apply IsS102.set_2) | exact HI0.out)⟩, ⟨by repeat (first | (with_reducible first | exact HK.out | apply KeepBut.set_ | apply au | apply ax | apply av) | exact HK.out)⟩, ⟨by repeat (first | (with_reducible first | exact HB.out | apply ah | apply ae | apply ag | refine ao ?_ (IsS102.ge HI0.out)) | exact HB.out)⟩⟩
   case rest =>
    clear HC11
    try clear c1
    try clear p2
    try clear p6
    try clear c7
    try clear c8
    try clear c11
    try clear c13
    try clear c13b0
    try clear p2
    try clear p6
    obtain ⟨kq, x20_10, x1001_10, x1002_10, rfl, HA, HJ10, HO_4, HI0, HK, HB⟩ := hcut
    cases kq with
    | zero => exact absurd HA.out (by simp [spec_l22Draw.j1])
    | succ kj10 =>
     have H := HA.out
     clear HA
     simp only [spec_l22Draw.j1] at H
     by_cases c16 : x20_10 = true
     ·subst c16
      have H1 := H; rw [if_pos rfl] at H1
      clear H
      have H := H1
      clear H1
      replace H := bm.mp H
      obtain ⟨⟨t253, t254, t255⟩, A170, H⟩ := H
      (try dsimp only at H)
      have A17 := aa A170
      clear A170
      obtain ⟨y256, hy256⟩ : ∃ y_ : List Int, y_ = (([(-1), 0, 3, 4, (-9223372036854775808)] : List Int)) := ⟨_, rfl⟩
      replace H : ((spec_l00Src_among.f s0_0 t254 t255 y256).bind fun bt259 => (if 0 ≤ t253 then (if t253 < (t245.length : Int) then (some ((t245.set (t253 : Int).toNat bt259.1), bt259.2.1, bt259.2.2)) else (none)) else (none))) = some (r1, r2, r3) := by first | (rw [hy256]; with_reducible exact H) | (have H2_ := (Option.bind_some _ _).symm.trans H; rw [hy256]; with_reducible exact H2_) | (have H2_ := (Option.bind_some _ _).symm.trans H; with_reducible exact H2_) | with_reducible exact H | (rw [hy256]; exact H) | exact H
      have Ny256 := aa hy256
      clear hy256
      replace H := bm.mp H
      obtain ⟨⟨t259, t260, t261⟩, A180, H⟩ := H
      (try dsimp only at H)
      have A18 := aa A180
      clear A180
      by_cases c19 : 0 ≤ t253
      ·rw [if_pos c19] at H
       have c19b0 : decide (0 ≤ t253) = true := decide_eq_true c19
       clear c19
       by_cases c20 : t253 < (t245.length : Int)
       ·rw [if_pos c20] at H
        have c20b0 : decide (t253 < (t245.length : Int)) = true := decide_eq_true c20
        clear c20
        obtain ⟨y262, hy262⟩ : ∃ y_ : List Int, y_ = (t245.set (t253 : Int).toNat t259) := ⟨_, rfl⟩
        replace H : (some (y262, t260, t261)) = some (r1, r2, r3) := by first | (rw [hy262]; with_reducible exact H) | (have H2_ := (Option.bind_some _ _).symm.trans H; rw [hy262]; with_reducible exact H2_) | (have H2_ := (Option.bind_some _ _).symm.trans H; with_reducible exact H2_) | with_reducible exact H | (rw [hy262]; exact H) | exact H
        have Ny262 := aa hy262
        clear hy262
        simp only [Option.some.injEq, Prod.mk.injEq] at H
        obtain ⟨rfl, rfl, rfl⟩ := H
        go_wp2_with (first | ((with_reducible refine gate_callee (f := 88) rfl ?_); refine goesL_ (some 24) rfl rfl Try.func88 (by kernel_rfl) rfl #[.pointer (some ⟨g, 0, none⟩), .int .i64 x3_3] rfl (by (try simp only [List.map_toArray, List.map_cons, List.map_nil]); first | done | rfl | (simp only [List.length_drop, List.length_take]; rfl)) ?_; (with_reducible refine (spec_l00Src_pick.calls g s0_0 x1001_10 x1002_10 x3_3 t253 t254 t255 w0 _ ?side1 ?side2 A17.out).mono ?_); (case side1 => repeat (first | (with_reducible first | exact HI0.out | apply IsS102.alloc | apply IsS102.drewN | apply IsS102.drew | apply IsS102.set_1 | apply IsS102.set_2) | exact HI0.out)); (case side2 => repeat (first | (with_reducible first | exact HB.out | apply ah | apply ae | apply ag | refine ao ?_ (IsS102.ge HI0.out)) | exact HB.out)); rintro e w22 ⟨rfl, hi, hb, hk⟩; refine ⟨_, rfl, ?_⟩; have n0_ := aa (an (bf (IsS102.apart (show IsS102 w0 _ g s0_0 x1001_10 x1002_10 from by repeat (first | (with_reducible first | exact HI0.out | apply IsS102.alloc | apply IsS102.drewN | apply IsS102.drew | apply IsS102.set_1 | apply IsS102.set_2) | exact HI0.out)) (by (with_reducible repeat (first | apply ab | apply ac | apply af)); exact HO_4.out) (by decide)) hk (fun _ h => h.2)) (fun _ h => h.1)); have n1_ := aa (KeepBut.trans (by repeat (first | (with_reducible first | exact HK.out | apply KeepBut.set_ | apply au | apply ax | apply av) | exact HK.out)) hk (.inl rfl)); have n2_ := aa (hb); have n3_ := aa (hi); clear HO_4; clear HK; clear HB; clear HI0; have HO_4 := n0_; have HK := n1_; have HB := n2_; have HI0 := n3_; clear n0_ n1_ n2_ n3_; (try clear hb); (try clear hb2); (try clear hk); (try clear hi)) | ((with_reducible refine gate_dst (N := 26) rfl ?_); refine Kd.R_lit (Kd.int .i64) _ 2 ?hg (N := 26) ?hd (xs := ([(-1), 0, 3, 4, (-9223372036854775808)] : List Int)) (inner := [.int .i64 (-1), .int .i64 0, .int .i64 3, .int .i64 4, .int .i64 (-9223372036854775808)]) (ok := fun _ => True) (okp := fun _ => True) ?hr ?hp (fun _ hk => hk) trivial (Below.refl _ _) (Nat.le_refl _) (by simp) ?_; (case hd => rfl); (case hg => rfl); (case hr => first | (go_simp; done) | (go_simp; rfl)); (case hp => exact (Reps.one (show Kd.M (Kd.int .i64) _ _ _ (-1) [.int .i64 (-1)] from rfl) (Reps.one (show Kd.M (Kd.int .i64) _ _ _ 0 [.int .i64 0] from rfl) (Reps.one (show Kd.M (Kd.int .i64) _ _ _ 3 [.int .i64 3] from rfl) (Reps.one (show Kd.M (Kd.int .i64) _ _ _ 4 [.int .i64 4] from rfl) (Reps.one (show Kd.M (Kd.int .i64) _ _ _ (-9223372036854775808) [.int .i64 (-9223372036854775808)] from rfl) (Reps.none _ _))))))); intro v257 w23 ho24 hb hg_ hnew_; clear hg_ hnew_; (first | rw [← Ny256.out] at ho24 | (simp only [Int.reduceToNat] at ho24; rw [← Ny256.out] at ho24)); have n0_ := aa (aw (by (with_reducible repeat (first | apply ab | apply ac | apply af)); exact HO_4.out) (az ho24) hb); have n1_ := aa (bd (ba ho24 (bc (by (with_reducible repeat (first | apply ab | apply ac | apply af)); exact HO_4.out))) (keep_size (w := w) (g := g) (row := none) (by repeat (first | (with_reducible first | exact HK.out | apply KeepBut.set_ | apply au | apply ax | apply av) | exact HK.out)))); have n2_ := aa (IsS102.below (by repeat (first | (with_reducible first | exact HI0.out | apply IsS102.alloc | apply IsS102.drewN | apply IsS102.drew | apply IsS102.set_1 | apply IsS102.set_2) | exact HI0.out)) hb); have n3_ := aa (KeepBut.trans (by repeat (first | (with_reducible first | exact HK.out | apply KeepBut.set_ | apply au | apply ax | apply av) | exact HK.out)) (KeepBut.of_below hb g none) (.inl rfl)); have n4_ := aa (ay (by repeat (first | (with_reducible first | exact HB.out | apply ah | apply ae | apply ag | refine ao ?_ (IsS102.ge HI0.out)) | exact HB.out)) hb); clear HO_4; clear HI0; clear HK; clear HB; have HO_4 := n0_; have HO258 := n1_; have HI0 := n2_; have HK := n3_; have HB := n4_; clear n0_ n1_ n2_ n3_ n4_; clear hb ho24; obtain ⟨Ao25, co25, eo25⟩ := ap HO258.out; subst eo25) | ((with_reducible refine gate_callee (f := 112) rfl ?_); refine goesL_ (some 27) rfl rfl Try.func112 (by kernel_rfl) rfl #[.pointer (some ⟨g, 0, none⟩), .slice Ao25 y256.length co25] rfl (by (try simp only [List.map_toArray, List.map_cons, List.map_nil]); first | done | rfl | (simp only [List.length_drop, List.length_take]; rfl)) ?_; (with_reducible refine (spec_l00Src_among.calls g s0_0 t254 t255 _ _ y256 t259 t260 t261 w0 _ ?side1 ?side2 ?side3 ?side4 ?side5 A18.out).mono ?_); (case side1 => repeat (first | (with_reducible first | exact HI0.out | apply IsS102.alloc | apply IsS102.drewN | apply IsS102.drew | apply IsS102.set_1 | apply IsS102.set_2) | exact HI0.out)); (case side2 => repeat (first | (with_reducible first | exact HB.out | apply ah | apply ae | apply ag | refine ao ?_ (IsS102.ge HI0.out)) | exact HB.out)); (case side3 => repeat (first | exact (ai HO258.out).2.2 | (with_reducible refine ak ?_ _) | (with_reducible refine al ?_ _) | (with_reducible refine am ?_))); (case side4 => exact (ai HO258.out).2.1); (case side5 => exact far_slice (IsS102.own_ne HI0.out HO258.out (by decide))); rintro e w26 ⟨rfl, hi, hb, hk⟩; refine ⟨_, rfl, ?_⟩; have n0_ := aa (an (bf (IsS102.apart (show IsS102 w0 _ g s0_0 t254 t255 from by repeat (first | (with_reducible first | exact HI0.out | apply IsS102.alloc | apply IsS102.drewN | apply IsS102.drew | apply IsS102.set_1 | apply IsS102.set_2) | exact HI0.out)) (by (with_reducible repeat (first | apply ab | apply ac | apply af)); exact HO_4.out) (by decide)) hk (fun _ h => h.2)) (fun _ h => h.1)); have n1_ := aa (an (bf (IsS102.apart (show IsS102 w0 _ g s0_0 t254 t255 from by repeat (first | (with_reducible first | exact HI0.out | apply IsS102.alloc | apply IsS102.drewN | apply IsS102.drew | apply IsS102.set_1 | apply IsS102.set_2) | exact HI0.out)) (by (with_reducible repeat (first | apply ab | apply ac | apply af)); exact HO258.out) (by decide)) hk (fun _ h => h.2)) (fun _ h => h.1)); have n2_ := aa (KeepBut.trans (by repeat (first | (with_reducible first | exact HK.out | apply KeepBut.set_ | apply au | apply ax | apply av) | exact HK.out)) hk (.inl rfl)); have n3_ := aa (hb); have n4_ := aa (hi); clear HO_4; clear HO258; clear HK; clear HB; clear HI0; have HO_4 := n0_; have HO258 := n1_; have HK := n2_; have HB := n3_; have HI0 := n4_; clear n0_ n1_ n2_ n3_ n4_; (try clear hb); (try clear hb2); (try clear hk); (try clear hi); have p21 : 0 ≤ (t253 : Int) := of_decide_eq_true (by first | (with_reducible assumption) | assumption); have q21 : (t253 : Int) < ((t245.length : Int) : Int) := of_decide_eq_true (by first | (with_reducible assumption) | assumption); obtain ⟨go21, co21, eo21, gb21, gl21, cl21, HG21⟩ := Kd.R_form HO_4.out (by omega); (first | cases eo21 | (injection eo21 with ea_ en_ ec_; (first | subst ea_ | (injection ea_ with ea_; subst ea_)); subst ec_; clear en_)); have GB21 := aa gb21; have GG21 := aa HG21; clear gb21 gl21 HG21; obtain ⟨hx21_0, hf21_0⟩ := Kd.R_celln 0 HO_4.out (t253 : Int) p21 q21; replace p21 := eq_true p21; replace q21 := eq_true q21; have n_ := aa (an (ok' := (fun k_ => some k_ ≠ (.slice Ao25 y256.length co25 : Value).ownBlock)) HO_4.out (fun k_ hk => hk.2)); clear HO_4; have HO_4 := n_; clear n_; obtain ⟨hy27_, hz27_⟩ := Kd.R_celln 0 HO_4.out (t253 : Int) (of_decide_eq_true (by first | (with_reducible assumption) | assumption)) (of_decide_eq_true (by first | (with_reducible assumption) | assumption)); have HP27 := Kd.R_putg HO_4.out (t253 : Int) t259) | ((with_reducible refine gate_store (t := 2) (p := 28) rfl ?_); refine store_event (t := 2) (p := 28) (v := ?vo_w28) (w1 := (w26.setCell ⟨go21, (t253 : Int).toNat, none⟩ (.int .i64 t259))) ?hg ?ho ?hn ?hr ?_; (case ho => rfl); (case hg => rfl); (case hn => rfl); (case hr => first | (go_simp; done) | (go_simp; rfl)); intro w28 hw; have hg : w26.grownBy w28 (some go21) := (by rw [hw]; exact HP27.2); have hp_ : Kd.R (Kd.int .i64) 2 w28 w.heap.size (fun k_ => some k_ ≠ (.slice Ao25 y256.length co25 : Value).ownBlock) (.slice (some ⟨go21, 0, none⟩) t245.length co21) y262 := (by rw [hw, Ny262.out]; exact HP27.1); clear HP27; have n0_ := aa (hp_); have n1_ := aa (IsS102.grown (by repeat (first | (with_reducible first | exact HI0.out | apply IsS102.alloc | apply IsS102.drewN | apply IsS102.drew | apply IsS102.set_1 | apply IsS102.set_2) | exact HI0.out)) hg (IsS102.own_ne HI0.out HO_4.out (by decide))); have n2_ := aa (Kd.R_after (v := (.slice (some ⟨go21, 0, none⟩) t245.length co21)) (v1 := (.slice (some ⟨go21, 0, none⟩) t245.length co21)) (ok := (fun _ => True)) (by (with_reducible repeat (first | apply ab | apply ac | apply af)); exact HO258.out) hg (.inl rfl)); have n3_ := aa ((by rw [hw]; exact ao (HB.out) (Nat.le_trans HL.out GB21.out) : Below w0.heap.size w0 w28)); have n4_ := aa (KeepBut.trans (by repeat (first | (with_reducible first | exact HK.out | apply KeepBut.set_ | apply au | apply ax | apply av) | exact HK.out)) (KeepBut.of_grown hg g) (Kd.R_base2 HO_4.out)); clear HO_4; clear HI0; clear HO258; clear HB; clear HK; have HO_4 := n0_; have HI0 := n1_; have HO258 := n2_; have HB := n3_; have HK := n4_; clear n0_ n1_ n2_ n3_ n4_; clear hg hw hp_))
        go_ret
        exact ⟨_, by first | rfl | (simp [errW_none, errW_some] <;> rfl) | (simp [*, errW_none, errW_some] <;> rfl), by (with_reducible repeat (first | apply ab | apply ac | apply af)); exact an HO_4.out (fun _ hk => trivial), by repeat (first | (with_reducible first | exact HI0.out | apply IsS102.alloc | apply IsS102.drewN | apply IsS102.drew | apply IsS102.set_1 | apply IsS102.set_2) | exact HI0.out), by repeat (first | (with_reducible first | exact HB.out | apply ah | apply ae | apply ag | refine ao ?_ (IsS102.ge HI0.out)) | exact HB.out), by repeat (first | (with_reducible first | exact HK.out | apply KeepBut.set_ | apply au | apply ax | apply av) | exact HK.out)⟩
       ·rw [if_neg c20] at H
        exact absurd H (by simp)
      ·rw [if_neg c19] at H
       exact absurd H (by simp)
     ·replace c16 := Bool.eq_false_iff.mpr c16
      subst c16
      have H1 : (some (t245, x1001_10, x1002_10)) = some (r1, r2, r3) := by rw [if_neg (show ¬ (false = true) by decide)] at H; exact H
      clear H
      have H := H1
      clear H1
      simp only [Option.some.injEq, Prod.mk.injEq] at H
      obtain ⟨rfl, rfl, rfl⟩ := H
      go_wp2
      go_ret
      exact ⟨_, by first | rfl | (simp [errW_none, errW_some] <;> rfl) | (simp [*, errW_none, errW_some] <;> rfl), by (with_reducible repeat (first | apply ab | apply ac | apply af)); exact HO_4.out, by repeat (first | (with_reducible first | exact HI0.out | apply IsS102.alloc | apply IsS102.drewN | apply IsS102.drew | apply IsS102.set_1 | apply IsS102.set_2) | exact HI0.out), by repeat (first | (with_reducible first | exact HB.out | apply ah | apply ae | apply ag | refine ao ?_ (IsS102.ge HI0.out)) | exact HB.out), by repeat (first | (with_reducible first | exact HK.out | apply KeepBut.set_ | apply au | apply ax | apply av) | exact HK.out)⟩

/-! ### spec_l00From: function 85 -/
def spec_l00From.f (l0 : List Int) : Option (List Int × Int × Int) := some (l0, 0, 0)
set_option maxHeartbeats 8000000 in
set_option maxRecDepth 100000 in
theorem spec_l00From.calls (A0 : Option Addr) (c0 : Nat) (l0 : List Int) (r1 : List Int) (r2 : Int) (r3 : Int) (w0 w : World) (hB : Below w0.heap.size w0 w) (hr0 : Kd.C (Kd.int .u8) w0 A0 l0.length l0) (hc0 : l0.length ≤ c0) (h : spec_l00From.f l0 = some (r1, r2, r3)) :
  Calls Try.prog 85 #[.slice A0 l0.length c0] w fun e w' => ∃ g_ : Nat, e = .returned (.pointer (some ⟨g_, 0, none⟩)) ∧ IsS102 w0 w' g_ r1 r2 r3 ∧ Below w0.heap.size w0 w' ∧ Below w.heap.size w w' := by
 have hu102 := Try.underlying102
 have HR0 := aa hr0
 have HC0 := aa hc0
 clear hr0 hc0
 have HBW := aa (Below.refl w.heap.size w)
 have HW0 := aa hB.size
 have HB := aa hB
 clear hB
 have H : (some (l0, 0, 0)) = some (r1, r2, r3) := h
 clear h
 simp only [Option.some.injEq, Prod.mk.injEq] at H
 obtain ⟨rfl, rfl, rfl⟩ := H
 go_enter Try.func85, Try.ntmps85
 go_wp2_with (first | ((with_reducible refine gate_dst (N := 5) rfl ?_); refine box_event ?hg (N := 5) ?hd (cs := #[.slice A0 l0.length c0, .int .i64 0, .int .u64 0]) (t := 102) ?hr ?_; (case hd => rfl); (case hg => rfl); (case hr => first | (go_simp; done) | (go_simp; rfl)); intro gb263 hg w2 hbox hb; have n0_ := aa (ay HBW.out hb); have n1_ := aa (ay (by repeat (first | (with_reducible first | exact HB.out | apply ah | apply ae | apply ag) | exact HB.out)) hb); have n2_ := aa (hbox); have n3_ := aa ((by rw [hg]; exact (ar (by repeat (first | (with_reducible first | exact HBW.out | apply ah | apply ae | apply ag) | exact HBW.out))) : w.heap.size ≤ gb263)); have n4_ := aa ((Nat.le_trans HW0.out (by rw [hg]; exact (ar (by repeat (first | (with_reducible first | exact HBW.out | apply ah | apply ae | apply ag) | exact HBW.out))) : w.heap.size ≤ gb263) : w0.heap.size ≤ gb263)); clear HBW; clear HB; have HBW := n0_; have HB := n1_; have BK263 := n2_; have GW263 := n3_; have GE263 := n4_; clear n0_ n1_ n2_ n3_ n4_; clear hb hbox hg))
 go_ret
 exact ⟨_, rfl, (show IsS102 w0 _ gb263 l0 0 0 from ⟨_, _, by (with_reducible repeat (first | refine bh ?_ _ | refine bk ?_ | refine bi ?_ _)); exact BK263.out, GE263.out, HR0.out⟩), by repeat (first | (with_reducible first | exact HB.out | apply ah | apply ae | apply ag | refine ao ?_ GE263.out) | exact HB.out), by repeat (first | (with_reducible first | exact HBW.out | apply ah | apply ae | apply ag | refine ao ?_ GW263.out) | exact HBW.out)⟩

/-! ### spec_l00Min: function 122 -/
def spec_l00Min.f (a0 : Int) (a1 : Int) : Option (Int) := if a0 < a1 then (some a0) else (some a1)
set_option maxHeartbeats 8000000 in
set_option maxRecDepth 100000 in
theorem spec_l00Min.calls (a0 : Int) (a1 : Int) (r : Int) (w : World) (h : spec_l00Min.f a0 a1 = some r) :
  Calls Try.prog 122 #[.int .i64 a0, .int .i64 a1] w fun e w' => e = .returned (.int .i64 r) ∧ Drawn0 w w' := by
 have H : (if a0 < a1 then (some a0) else (some a1)) = some r := h
 clear h
 by_cases c3 : a0 < a1
 ·rw [if_pos c3] at H
  have c3b0 : decide (a0 < a1) = true := decide_eq_true c3
  clear c3
  obtain rfl := Option.some.inj H
  go_enter Try.func122, Try.ntmps122
  go_wp2
  go_ret
  exact ⟨by first | rfl | (simp; done) | (simp [*]; done), by repeat (first | exact Drawn0.refl _ | apply Drawn0.step)⟩
 ·rw [if_neg c3] at H
  have c3b0 : decide (a0 < a1) = false := decide_eq_false c3
  clear c3
  obtain rfl := Option.some.inj H
  go_enter Try.func122, Try.ntmps122
  go_wp2
  go_ret
  exact ⟨by first | rfl | (simp; done) | (simp [*]; done), by repeat (first | exact Drawn0.refl _ | apply Drawn0.step)⟩

/-! ### spec_l22DrawSteps: function 113 -/
mutual
def spec_l22DrawSteps.j0 : Nat → List Int → List Int → List (S64) → Int → List Int → Int → Int → Option ((List (S64)) × Int × Int)
 | 0, _, _, _, _, _, _, _ => none
 | k + 1, x1, x5, x6, x7, x1000, x1001, x1002 => spec_l22DrawSteps.l0 k x1 x5 x6 x7 x1000 x1001 x1002
def spec_l22DrawSteps.l0 : Nat → List Int → List Int → List (S64) → Int → List Int → Int → Int → Option ((List (S64)) × Int × Int)
 | 0, _, _, _, _, _, _, _ => none
 | k + 1, x1, x5, x6, x8, x1000, x1001, x1002 => if x8 > 0 then (spec_l22DrawSteps.j2 k x1 x5 x6 x8 (decide ((x5.length : Int) > 0)) x1000 x1001 x1002) else (spec_l22DrawSteps.j2 k x1 x5 x6 x8 false x1000 x1001 x1002)
def spec_l22DrawSteps.j2 : Nat → List Int → List Int → List (S64) → Int → Bool → List Int → Int → Int → Option ((List (S64)) × Int × Int)
 | 0, _, _, _, _, _, _, _, _ => none
 | k + 1, x1, x5, x6, x8, x28, x1000, x1001, x1002 => if x28 = true then ((spec_l00Src_pick.f x1000 x1001 x1002 (x5.length : Int)).bind fun bt279 => (if 0 ≤ bt279.1 then (if bt279.1 < (x5.length : Int) then ((spec_l00Min.f 3 (rd x5 bt279.1)).bind fun t284 => ((spec_l00Max.f 0 t284).bind fun t285 => ((spec_l00Src_pick.f x1000 bt279.2.1 bt279.2.2 3).bind fun bt286 => (if x6.length < 5864062014805 then (spec_l22DrawSteps.l0 k x1 (x5.set (bt279.1 : Int).toNat (Int.tmod (wrap64 ((wrap64 (t285 + 1)) + bt286.1)) 4)) (x6 ++ [(⟨bt279.1, rd x5 bt279.1, Int.tmod (wrap64 ((wrap64 (t285 + 1)) + bt286.1)) 4⟩ : S64)]) (wrap64 (x8 - 1)) x1000 bt286.2.1 bt286.2.2) else (none))))) else (none)) else (none))) else (if (x6.length : Int) > 0 then ((spec_l00Src_pick.f x1000 x1001 x1002 (x6.length : Int)).bind fun bt293 => (if 0 ≤ bt293.1 then (if bt293.1 < (x6.length : Int) then ((spec_l00Src_pick.f x1000 bt293.2.1 bt293.2.2 12).bind fun bt297 => (if bt297.1 = 0 then ((spec_l00Src_among.f x1000 bt297.2.1 bt297.2.2 (([(-1), 0, wrap64 ((x1.length : Int) - 1), (x1.length : Int)] : List Int))).bind fun bt303 => (some ((x6.set (bt293.1 : Int).toNat (⟨bt303.1, (rd_T64 x6 bt293.1).f1, (rd_T64 x6 bt293.1).f2⟩ : S64)), bt303.2.1, bt303.2.2))) else (if bt297.1 = 1 then ((spec_l00Src_among.f x1000 bt297.2.1 bt297.2.2 (([(-1), 0, 1, 2, 3, 4] : List Int))).bind fun bt310 => (some ((x6.set (bt293.1 : Int).toNat (⟨(rd_T64 x6 bt293.1).f0, bt310.1, (rd_T64 x6 bt293.1).f2⟩ : S64)), bt310.2.1, bt310.2.2))) else (some (x6, bt297.2.1, bt297.2.2))))) else (none)) else (none))) else (some (x6, x1001, x1002)))
end
def spec_l22DrawSteps.f (k : Nat) (s0_0 : List Int) (s0_1 : Int) (s0_2 : Int) (l1 : List Int) : Option ((List (S64)) × Int × Int) := (spec_l00Own.f l1).bind fun t264 => ((some (([] : List (S64)) : List (S64))).bind fun y267 => ((spec_l00Src_pick.f s0_0 s0_1 s0_2 7).bind fun bt270 => ((spec_l00Src_one.f s0_0 bt270.2.1 bt270.2.2 20).bind fun bt273 => (if bt273.1 = true then ((spec_l00Src_pick.f s0_0 bt273.2.1 bt273.2.2 2).bind fun bt276 => (spec_l22DrawSteps.j0 k l1 t264 y267 (wrap64 (60 + bt276.1)) s0_0 bt276.2.1 bt276.2.2)) else (spec_l22DrawSteps.j0 k l1 t264 y267 bt270.1 s0_0 bt273.2.1 bt273.2.2)))))
theorem spec_l22DrawSteps.mono_l : ∀ k, (∀ y0 y1 y2 y3 y4 y5 y6, LeO (spec_l22DrawSteps.j0 k y0 y1 y2 y3 y4 y5 y6) (spec_l22DrawSteps.j0 (k + 1) y0 y1 y2 y3 y4 y5 y6)) ∧ (∀ y0 y1 y2 y3 y4 y5 y6, LeO (spec_l22DrawSteps.l0 k y0 y1 y2 y3 y4 y5 y6) (spec_l22DrawSteps.l0 (k + 1) y0 y1 y2 y3 y4 y5 y6)) ∧ (∀ y0 y1 y2 y3 y4 y5 y6 y7, LeO (spec_l22DrawSteps.j2 k y0 y1 y2 y3 y4 y5 y6 y7) (spec_l22DrawSteps.j2 (k + 1) y0 y1 y2 y3 y4 y5 y6 y7))
 | 0 => ⟨fun _ _ _ _ _ _ _ r h => by simp [spec_l22DrawSteps.j0] at h, fun _ _ _ _ _ _ _ r h => by simp [spec_l22DrawSteps.l0] at h, fun _ _ _ _ _ _ _ _ r h => by simp [spec_l22DrawSteps.j2] at h⟩
 | k + 1 => by
  obtain ⟨ih0, ih1, ih2⟩ := spec_l22DrawSteps.mono_l k
  refine ⟨?_, ?_, ?_⟩
  ·intro y0 y1 y2 y3 y4 y5 y6
   unfold spec_l22DrawSteps.j0
   repeat' first
   | (with_reducible exact ih0 _ _ _ _ _ _ _)
   | (with_reducible exact ih1 _ _ _ _ _ _ _)
   | (with_reducible exact ih2 _ _ _ _ _ _ _ _)
   | (with_reducible exact LeO.refl _)
   | (with_reducible exact LeO.none _)
   | (with_reducible refine LeO.ite ?_ ?_)
   | (with_reducible refine LeO.bind ?_ (fun _ => ?_))
   | exact ih0 _ _ _ _ _ _ _
   | exact ih1 _ _ _ _ _ _ _
   | exact ih2 _ _ _ _ _ _ _ _
   | exact LeO.none _
   | refine LeO.ite ?_ ?_
   | refine LeO.bind ?_ (fun _ => ?_)
  ·intro y0 y1 y2 y3 y4 y5 y6
   unfold spec_l22DrawSteps.l0
   repeat' first
   | (with_reducible exact ih0 _ _ _ _ _ _ _)
   | (with_reducible exact ih1 _ _ _ _ _ _ _)
   | (with_reducible exact ih2 _ _ _ _ _ _ _ _)
   | (with_reducible exact LeO.refl _)
   | (with_reducible exact LeO.none _)
   | (with_reducible refine LeO.ite ?_ ?_)
   | (with_reducible refine LeO.bind ?_ (fun _ => ?_))
   | exact ih0 _ _ _ _ _ _ _
   | exact ih1 _ _ _ _ _ _ _
   | exact ih2 _ _ _ _ _ _ _ _
   | exact LeO.none _
   | refine LeO.ite ?_ ?_
   | refine LeO.bind ?_ (fun _ => ?_)
  ·intro y0 y1 y2 y3 y4 y5 y6 y7
   unfold spec_l22DrawSteps.j2
   repeat' first
   | (with_reducible exact ih0 _ _ _ _ _ _ _)
   | (with_reducible exact ih1 _ _ _ _ _ _ _)
   | (with_reducible exact ih2 _ _ _ _ _ _ _ _)
   | (with_reducible exact LeO.refl _)
   | (with_reducible exact LeO.none _)
   | (with_reducible refine LeO.ite ?_ ?_)
   | (with_reducible refine LeO.bind ?_ (fun _ => ?_))
   | exact ih0 _ _ _ _ _ _ _
   | exact ih1 _ _ _ _ _ _ _
   | exact ih2 _ _ _ _ _ _ _ _
   | exact LeO.none _
   | refine LeO.ite ?_ ?_
   | refine LeO.bind ?_ (fun _ => ?_)
theorem spec_l22DrawSteps.mono : ∀ a0 a1 a2 a3 k, LeO (spec_l22DrawSteps.f k a0 a1 a2 a3) (spec_l22DrawSteps.f (k + 1) a0 a1 a2 a3) := by
 intro a0 a1 a2 a3 k
 obtain ⟨ih0, ih1, ih2⟩ := spec_l22DrawSteps.mono_l k
 unfold spec_l22DrawSteps.f
 repeat' first
   | (with_reducible exact ih0 _ _ _ _ _ _ _)
   | (with_reducible exact ih1 _ _ _ _ _ _ _)
   | (with_reducible exact ih2 _ _ _ _ _ _ _ _)
   | (with_reducible exact LeO.refl _)
   | (with_reducible exact LeO.none _)
   | (with_reducible refine LeO.ite ?_ ?_)
   | (with_reducible refine LeO.bind ?_ (fun _ => ?_))
   | exact ih0 _ _ _ _ _ _ _
   | exact ih1 _ _ _ _ _ _ _
   | exact ih2 _ _ _ _ _ _ _ _
   | exact LeO.none _
   | refine LeO.ite ?_ ?_
   | refine LeO.bind ?_ (fun _ => ?_)
set_option maxHeartbeats 8000000 in
set_option maxRecDepth 100000 in
theorem spec_l22DrawSteps.calls (k : Nat) (g : Nat) (s0_0 : List Int) (s0_1 : Int) (s0_2 : Int) (A1 : Option Addr) (c1 : Nat) (l1 : List Int) (r1 : List (S64)) (r2 : Int) (r3 : Int) (w0 w : World) (hI : IsS102 w0 w g s0_0 s0_1 s0_2) (hB : Below w0.heap.size w0 w) (hr1 : Kd.C (Kd.int .i64) w A1 l1.length l1) (hc1 : l1.length ≤ c1) (hf1 : ∀ ad, A1 = some ad → 0 < l1.length → ad.block ≠ g) (h : spec_l22DrawSteps.f k s0_0 s0_1 s0_2 l1 = some (r1, r2, r3)) :
  Calls Try.prog 113 #[.pointer (some ⟨g, 0, none⟩), .slice A1 l1.length c1] w fun e w' => ∃ v0_ : Value, e = .returned (v0_) ∧ Kd.R k64 64 w' w.heap.size (fun _ => True) v0_ r1 ∧ IsS102 w0 w' g s0_0 r2 r3 ∧ Below w0.heap.size w0 w' ∧ KeepBut w w' g none := by
 have hu64 := Try.underlying64
 have HR1 := aa hr1
 have HC1 := aa hc1
 clear hr1 hc1
 have HI0 := aa hI
 have HK := aa (KeepBut.refl w g none)
 have HL := aa hB.size
 clear hI
 have HW0 := aa hB.size
 have HB := aa hB
 clear hB
 have H : ((spec_l00Own.f l1).bind fun t264 => ((some (([] : List (S64)) : List (S64))).bind fun y267 => ((spec_l00Src_pick.f s0_0 s0_1 s0_2 7).bind fun bt270 => ((spec_l00Src_one.f s0_0 bt270.2.1 bt270.2.2 20).bind fun bt273 => (if bt273.1 = true then ((spec_l00Src_pick.f s0_0 bt273.2.1 bt273.2.2 2).bind fun bt276 => (spec_l22DrawSteps.j0 k l1 t264 y267 (wrap64 (60 + bt276.1)) s0_0 bt276.2.1 bt276.2.2)) else (spec_l22DrawSteps.j0 k l1 t264 y267 bt270.1 s0_0 bt273.2.1 bt273.2.2)))))) = some (r1, r2, r3) := h
 clear h
 replace H := bm.mp H
 obtain ⟨t264, A30, H⟩ := H
 (try dsimp only at H)
 have A3 := aa A30
 clear A30
 obtain ⟨y267, hy267⟩ : ∃ y_ : List (S64), y_ = (([] : List (S64))) := ⟨_, rfl⟩
 replace H : ((spec_l00Src_pick.f s0_0 s0_1 s0_2 7).bind fun bt270 => ((spec_l00Src_one.f s0_0 bt270.2.1 bt270.2.2 20).bind fun bt273 => (if bt273.1 = true then ((spec_l00Src_pick.f s0_0 bt273.2.1 bt273.2.2 2).bind fun bt276 => (spec_l22DrawSteps.j0 k l1 t264 y267 (wrap64 (60 + bt276.1)) s0_0 bt276.2.1 bt276.2.2)) else (spec_l22DrawSteps.j0 k l1 t264 y267 bt270.1 s0_0 bt273.2.1 bt273.2.2)))) = some (r1, r2, r3) := by first | (rw [hy267]; with_reducible exact H) | (have H2_ := (Option.bind_some _ _).symm.trans H; rw [hy267]; with_reducible exact H2_) | (have H2_ := (Option.bind_some _ _).symm.trans H; with_reducible exact H2_) | with_reducible exact H | (rw [hy267]; exact H) | exact H
 have Ny267 := aa hy267
 clear hy267
 replace H := bm.mp H
 obtain ⟨⟨t270, t271, t272⟩, A40, H⟩ := H
 (try dsimp only at H)
 have A4 := aa A40
 clear A40
 replace H := bm.mp H
 obtain ⟨⟨t273, t274, t275⟩, A50, H⟩ := H
 (try dsimp only at H)
 have A5 := aa A50
 clear A50
 have HC6 := aa H
 clear H
 go_enter Try.func113, Try.ntmps113
 go_upto_if 17 with (first | ((with_reducible refine gate_callee (f := 68) rfl ?_); refine goesL_ (some 12) rfl rfl Try.func68 (by kernel_rfl) rfl #[.slice A1 l1.length c1] rfl (by (try simp only [List.map_toArray, List.map_cons, List.map_nil]); first | done | rfl | (simp only [List.length_drop, List.length_take]; rfl)) ?_; (with_reducible refine (spec_l00Own.calls _ _ l1 t264 _ ?side1 ?side2 A3.out).mono ?_); (case side1 => exact Kd.C_keep 0 HR1.out (by repeat (first | (with_reducible first | exact HK.out | apply KeepBut.set_ | apply au | apply ax | apply av) | exact HK.out)) hf1); (case side2 => exact HC1.out); rintro e w7 ⟨v265, rfl, ho0, hb⟩; refine ⟨_, rfl, ?_⟩; have n0_ := aa (bd ho0 (keep_size (w := w) (g := g) (row := none) (by repeat (first | (with_reducible first | exact HK.out | apply KeepBut.set_ | apply au | apply ax | apply av) | exact HK.out)))); have n1_ := aa (IsS102.below (by repeat (first | (with_reducible first | exact HI0.out | apply IsS102.alloc | apply IsS102.drewN | apply IsS102.drew | apply IsS102.set_1 | apply IsS102.set_2) | exact HI0.out)) hb); have n2_ := aa (KeepBut.trans (by repeat (first | (with_reducible first | exact HK.out | apply KeepBut.set_ | apply au | apply ax | apply av) | exact HK.out)) (KeepBut.of_below hb g none) (.inl rfl)); have n3_ := aa (ay (by repeat (first | (with_reducible first | exact HB.out | apply ah | apply ae | apply ag | refine ao ?_ (IsS102.ge HI0.out)) | exact HB.out)) hb); clear HI0; clear HK; clear HB; have HO266 := n0_; have HI0 := n1_; have HK := n2_; have HB := n3_; clear n0_ n1_ n2_ n3_; (try clear hb); (try clear hb2); (try clear hk); (try clear hi); (try clear ho0)) | ((with_reducible refine gate_dst (N := 13) rfl ?_); (try (refine gate_guard (by rfl) ?_; dsimp only)); refine Kd.R_lit k64 _ 64 ?hg (N := 13) ?hd (xs := ([] : List (S64))) (inner := []) (ok := fun _ => True) (okp := fun _ => True) ?hr ?hp (fun _ hk => hk) trivial (Below.refl _ _) (Nat.le_refl _) (by simp) ?_; (case hd => rfl); (case hg => rfl); (case hr => first | (go_simp; done) | (go_simp; rfl)); (case hp => exact (Reps.none _ _)); intro v268 w8 ho9 hb hg_ hnew_; clear hg_ hnew_; (first | rw [← Ny267.out] at ho9 | (simp only [Int.reduceToNat] at ho9; rw [← Ny267.out] at ho9)); have n0_ := aa (aq (by (with_reducible repeat (first | apply ab | apply ac | apply af)); exact HO266.out) hb); have n1_ := aa (bd ho9 (keep_size (w := w) (g := g) (row := none) (by repeat (first | (with_reducible first | exact HK.out | apply KeepBut.set_ | apply au | apply ax | apply av) | exact HK.out)))); have n2_ := aa (IsS102.below (by repeat (first | (with_reducible first | exact HI0.out | apply IsS102.alloc | apply IsS102.drewN | apply IsS102.drew | apply IsS102.set_1 | apply IsS102.set_2) | exact HI0.out)) hb); have n3_ := aa (KeepBut.trans (by repeat (first | (with_reducible first | exact HK.out | apply KeepBut.set_ | apply au | apply ax | apply av) | exact HK.out)) (KeepBut.of_below hb g none) (.inl rfl)); have n4_ := aa (ay (by repeat (first | (with_reducible first | exact HB.out | apply ah | apply ae | apply ag | refine ao ?_ (IsS102.ge HI0.out)) | exact HB.out)) hb); clear HO266; clear HI0; clear HK; clear HB; have HO266 := n0_; have HO269 := n1_; have HI0 := n2_; have HK := n3_; have HB := n4_; clear n0_ n1_ n2_ n3_ n4_; clear hb ho9) | ((with_reducible refine gate_callee (f := 88) rfl ?_); refine goesL_ (some 15) rfl rfl Try.func88 (by kernel_rfl) rfl #[.pointer (some ⟨g, 0, none⟩), .int .i64 7] rfl (by (try simp only [List.map_toArray, List.map_cons, List.map_nil]); first | done | rfl | (simp only [List.length_drop, List.length_take]; rfl)) ?_; (with_reducible refine (spec_l00Src_pick.calls g s0_0 s0_1 s0_2 7 t270 t271 t272 w0 _ ?side1 ?side2 A4.out).mono ?_); (case side1 => repeat (first | (with_reducible first | exact HI0.out | apply IsS102.alloc | apply IsS102.drewN | apply IsS102.drew | apply IsS102.set_1 | apply IsS102.set_2) | exact HI0.out)); (case side2 => repeat (first | (with_reducible first | exact HB.out | apply ah | apply ae | apply ag | refine ao ?_ (IsS102.ge HI0.out)) | exact HB.out)); rintro e w10 ⟨rfl, hi, hb, hk⟩; refine ⟨_, rfl, ?_⟩; have n0_ := aa (an (bf (IsS102.apart (show IsS102 w0 _ g s0_0 s0_1 s0_2 from by repeat (first | (with_reducible first | exact HI0.out | apply IsS102.alloc | apply IsS102.drewN | apply IsS102.drew | apply IsS102.set_1 | apply IsS102.set_2) | exact HI0.out)) (by (with_reducible repeat (first | apply ab | apply ac | apply af)); exact HO266.out) (by decide)) hk (fun _ h => h.2)) (fun _ h => h.1)); have n1_ := aa (an (bf (IsS102.apart (show IsS102 w0 _ g s0_0 s0_1 s0_2 from by repeat (first | (with_reducible first | exact HI0.out | apply IsS102.alloc | apply IsS102.drewN | apply IsS102.drew | apply IsS102.set_1 | apply IsS102.set_2) | exact HI0.out)) (by (with_reducible repeat (first | apply ab | apply ac | apply af)); exact HO269.out) (by decide)) hk (fun _ h => h.2)) (fun _ h => h.1)); have n2_ := aa (KeepBut.trans (by repeat (first | (with_reducible first | exact HK.out | apply KeepBut.set_ | apply au | apply ax | apply av) | exact HK.out)) hk (.inl rfl)); have n3_ := aa (hb); have n4_ := aa (hi); clear HO266; clear HO269; clear HK; clear HB; clear HI0; have HO266 := n0_; have HO269 := n1_; have HK := n2_; have HB := n3_; have HI0 := n4_; clear n0_ n1_ n2_ n3_ n4_; (try clear hb); (try clear hb2); (try clear hk); (try clear hi)) | ((with_reducible refine gate_callee (f := 111) rfl ?_); refine goesL_ (some 17) rfl rfl Try.func111 (by kernel_rfl) rfl #[.pointer (some ⟨g, 0, none⟩), .int .i64 20] rfl (by (try simp only [List.map_toArray, List.map_cons, List.map_nil]); first | done | rfl | (simp only [List.length_drop, List.length_take]; rfl)) ?_; (with_reducible refine (spec_l00Src_one.calls g s0_0 t271 t272 20 t273 t274 t275 w0 _ ?side1 ?side2 A5.out).mono ?_); (case side1 => repeat (first | (with_reducible first | exact HI0.out | apply IsS102.alloc | apply IsS102.drewN | apply IsS102.drew | apply IsS102.set_1 | apply IsS102.set_2) | exact HI0.out)); (case side2 => repeat (first | (with_reducible first | exact HB.out | apply ah | apply ae | apply ag | refine ao ?_ (IsS102.ge HI0.out)) | exact HB.out)); rintro e w11 ⟨rfl, hi, hb, hk⟩; refine ⟨_, rfl, ?_⟩; have n0_ := aa (an (bf (IsS102.apart (show IsS102 w0 _ g s0_0 t271 t272 from by repeat (first | (with_reducible first | exact HI0.out | apply IsS102.alloc | apply IsS102.drewN | apply IsS102.drew | apply IsS102.set_1 | apply IsS102.set_2) | exact HI0.out)) (by (with_reducible repeat (first | apply ab | apply ac | apply af)); exact HO266.out) (by decide)) hk (fun _ h => h.2)) (fun _ h => h.1)); have n1_ := aa (an (bf (IsS102.apart (show IsS102 w0 _ g s0_0 t271 t272 from by repeat (first | (with_reducible first | exact HI0.out | apply IsS102.alloc | apply IsS102.drewN | apply IsS102.drew | apply IsS102.set_1 | apply IsS102.set_2) | exact HI0.out)) (by (with_reducible repeat (first | apply ab | apply ac | apply af)); exact HO269.out) (by decide)) hk (fun _ h => h.2)) (fun _ h => h.1)); have n2_ := aa (KeepBut.trans (by repeat (first | (with_reducible first | exact HK.out | apply KeepBut.set_ | apply au | apply ax | apply av) | exact HK.out)) hk (.inl rfl)); have n3_ := aa (hb); have n4_ := aa (hi); clear HO266; clear HO269; clear HK; clear HB; clear HI0; have HO266 := n0_; have HO269 := n1_; have HK := n2_; have HB := n3_; have HI0 := n4_; clear n0_ n1_ n2_ n3_ n4_; (try clear hb); (try clear hb2); (try clear hk); (try clear hi)))
 (try simp only [Act.put, List.setIfInBounds_toArray, List.set_cons_zero, List.set_cons_succ])
 go_cut [7] (fun v7 wc => ∃ (kq : Nat) (x7_5 : Int) (x1001_5 : Int) (x1002_5 : Int), v7 = .int .i64 x7_5 ∧ Aside0 (spec_l22DrawSteps.j0 kq l1 t264 y267 x7_5 s0_0 x1001_5 x1002_5 = some (r1, r2, r3)) ∧ Aside0 (kq ≤ k) ∧ Aside0 (Kd.R (Kd.int .i64) 2 wc w.heap.size (fun _ => True) v265 t264) ∧ Aside0 (Kd.R k64 64 wc w.heap.size (fun _ => True) v268 y267) ∧ Aside0 (IsS102 w0 wc g s0_0 x1001_5 x1002_5) ∧ Aside0 (KeepBut w wc g none) ∧ Aside0 (Below w0.heap.size w0 wc))
 case first =>
  have H := HC6.out
  clear HC6
  by_cases c12 : t273 = true
  ·subst c12
   have H1 := H; rw [if_pos rfl] at H1
   clear H
   have H := H1
   clear H1
   replace H := bm.mp H
   obtain ⟨⟨t276, t277, t278⟩, A130, H⟩ := H
   replace H : (spec_l22DrawSteps.j0 k l1 t264 y267 (wrap64 (60 + t276)) s0_0 t277 t278) = some (r1, r2, r3) := H
   have A13 := aa A130
   clear A130
   have H' := aa H
   clear H
   go_wp2_with (first | ((with_reducible refine gate_callee (f := 88) rfl ?_); refine goesL_ (some 19) rfl rfl Try.func88 (by kernel_rfl) rfl #[.pointer (some ⟨g, 0, none⟩), .int .i64 2] rfl (by (try simp only [List.map_toArray, List.map_cons, List.map_nil]); first | done | rfl | (simp only [List.length_drop, List.length_take]; rfl)) ?_; (with_reducible refine (spec_l00Src_pick.calls g s0_0 t274 t275 2 t276 t277 t278 w0 _ ?side1 ?side2 A13.out).mono ?_); (case side1 => repeat (first | (with_reducible first | exact HI0.out | apply IsS102.alloc | apply IsS102.drewN | apply IsS102.drew | apply IsS102.set_1 | apply IsS102.set_2) | exact HI0.out)); (case side2 => repeat (first | (with_reducible first | exact HB.out | apply ah | apply ae | apply ag | refine ao ?_ (IsS102.ge HI0.out)) | exact HB.out)); rintro e w14 ⟨rfl, hi, hb, hk⟩; refine ⟨_, rfl, ?_⟩; have n0_ := aa (an (bf (IsS102.apart (show IsS102 w0 _ g s0_0 t274 t275 from by repeat (first | (with_reducible first | exact HI0.out | apply IsS102.alloc | apply IsS102.drewN | apply IsS102.drew | apply IsS102.set_1 | apply IsS102.set_2) | exact HI0.out)) (by (with_reducible repeat (first | apply ab | apply ac | apply af)); exact HO266.out) (by decide)) hk (fun _ h => h.2)) (fun _ h => h.1)); have n1_ := aa (an (bf (IsS102.apart (show IsS102 w0 _ g s0_0 t274 t275 from by repeat (first | (with_reducible first | exact HI0.out | apply IsS102.alloc | apply IsS102.drewN | apply IsS102.drew | apply IsS102.set_1 | apply IsS102.set_2) | exact HI0.out)) (by (with_reducible repeat (first | apply ab | apply ac | apply af)); exact HO269.out) (by decide)) hk (fun _ h => h.2)) (fun _ h => h.1)); have n2_ := aa (KeepBut.trans (by repeat (first | (with_reducible first | exact HK.out | apply KeepBut.set_ | apply au | apply ax | apply av) | exact HK.out)) hk (.inl rfl)); have n3_ := aa (hb); have n4_ := aa (hi); clear HO266; clear HO269; clear HK; clear HB; clear HI0; have HO266 := n0_; have HO269 := n1_; have HK := n2_; have HB := n3_; have HI0 := n4_; clear n0_ n1_ n2_ n3_ n4_; (try clear hb); (try clear hb2); (try clear hk); (try clear hi)))
   go_meet
   case rel => exact ⟨_, (wrap64 (60 + t276)), (t277), (t278), (by first | rfl | (simp; done) | (simp [*]; done)), H', ⟨by first | omega | exact Nat.le_refl _⟩, ⟨by (with_reducible repeat (first | apply ab | apply ac | apply af)); exact HO266.out⟩, ⟨by (with_reducible repeat (first | apply ab | apply ac | apply af)); exact HO269.out⟩, ⟨by repeat (first | (with_reducible first | exact HI0.out | apply IsS102.alloc | apply IsS102.drewN | apply IsS102.drew | apply IsS102.set_1 | apply IsS102.set_2) | exact HI0.out)⟩, ⟨by repeat (first | (with_reducible first | exact HK.out | apply KeepBut.set_ | apply au | apply ax | apply av) | exact HK.out)⟩, ⟨by repeat (first | (with_reducible first | exact HB.out | apply ah | apply ae | apply ag | refine ao ?_ (IsS102.ge HI0.out)) | exact HB.out)⟩⟩
  ·replace c12 := Bool.eq_false_iff.mpr c12
   subst c12
   have H1 := H; rw [if_neg (show ¬ (false = true) by decide)] at H1
   clear H
   have H := H1
   clear H1
   have H' := aa H
   clear H
   go_wp2
   go_meet
   case rel => exact ⟨_, (t270), (t274), (t275), (by first | rfl | (simp; done) | (simp [*]; done)), H', ⟨by first | omega | exact Nat.le_refl _⟩, ⟨by (with_reducible repeat (first | apply ab | apply ac | apply af)); exact HO266.out⟩, ⟨by (with_reducible repeat (first | apply ab | apply ac | apply af)); exact HO269.out⟩, ⟨by repeat (first | (with_reducible first | exact HI0.out | apply IsS102.alloc | apply IsS102.drewN | apply IsS102.drew | apply IsS102.set_1 | apply IsS102.set_2) | exact HI0.out)⟩, ⟨by repeat (first | (with_reducible first | exact HK.out | apply KeepBut.set_ | apply au | apply ax | apply av) | exact HK.out)⟩, ⟨by repeat (first | (with_reducible first | exact HB.out | apply ah | apply ae | apply ag | refine ao ?_ (IsS102.ge HI0.out)) | exact HB.out)⟩⟩
 case rest =>
  clear HC6
  try clear c1
  try clear p2
  try clear c6
  try clear p6
  try clear c8
  try clear c11
  try clear c12
  obtain ⟨kq, x7_5, x1001_5, x1002_5, rfl, HA, HJ5, HO_5, HO_6, HI0, HK, HB⟩ := hcut
  cases kq with
  | zero => exact absurd HA.out (by simp [spec_l22DrawSteps.j0])
  | succ kj5 =>
   have H := HA.out
   clear HA
   simp only [spec_l22DrawSteps.j0] at H
   have H' := aa H
   clear H
   go_wp2
   go_loopg [6, 8] kj5 (fun kq v6 v8 w' => ∃ (x5_2 : List Int) (x6_2 : List (S64)) (x8_2 : Int) (x1001_2 : Int) (x1002_2 : Int), v8 = .int .i64 x8_2 ∧ Aside0 (spec_l22DrawSteps.l0 kq l1 x5_2 x6_2 x8_2 s0_0 x1001_2 x1002_2 = some (r1, r2, r3)) ∧ Aside0 (kq ≤ kj5) ∧ Aside0 (Kd.R (Kd.int .i64) 2 w' w.heap.size (fun _ => True) v265 x5_2) ∧ Aside0 (Kd.R k64 64 w' w.heap.size (fun _ => True) v6 x6_2) ∧ Aside0 (IsS102 w0 w' g s0_0 x1001_2 x1002_2) ∧ Aside0 (KeepBut w w' g none) ∧ Aside0 (Below w0.heap.size w0 w'))
   case atStart => exact ⟨(t264), (y267), (x7_5), (x1001_5), (x1002_5), (by first | rfl | (simp; done) | (simp [*]; done)), H', ⟨Nat.le_refl _⟩, ⟨by (with_reducible repeat (first | apply ab | apply ac | apply af)); exact HO_5.out⟩, ⟨by (with_reducible repeat (first | apply ab | apply ac | apply af)); exact HO_6.out⟩, ⟨by repeat (first | (with_reducible first | exact HI0.out | apply IsS102.alloc | apply IsS102.drewN | apply IsS102.drew | apply IsS102.set_1 | apply IsS102.set_2) | exact HI0.out)⟩, ⟨by repeat (first | (with_reducible first | exact HK.out | apply KeepBut.set_ | apply au | apply ax | apply av) | exact HK.out)⟩, ⟨by repeat (first | (with_reducible first | exact HB.out | apply ah | apply ae | apply ag | refine ao ?_ (IsS102.ge HI0.out)) | exact HB.out)⟩⟩
   case round =>
    clear H'
    try clear c1
    try clear p2
    try clear c6
    try clear p6
    try clear c8
    try clear c11
    try clear c12
    try clear p2
    try clear p6
    obtain ⟨x5_2, x6_2, x8_2, x1001_2, x1002_2, rfl, HA, HK2, HO_5, HO_6, HI0, HK, HB⟩ := hrel
    cases gk with
    | zero => exact absurd HA.out (by simp [spec_l22DrawSteps.l0])
    | succ k2 =>
     have H := HA.out
     clear HA
     simp only [spec_l22DrawSteps.l0] at H
     have HC15 := aa H
     clear H
     go_upto_region 7 with (fail)
     go_cut [28] (fun v28 wc => ∃ (kq : Nat) (x28_14 : Bool), v28 = .bool x28_14 ∧ Aside0 (spec_l22DrawSteps.j2 kq l1 x5_2 x6_2 x8_2 x28_14 s0_0 x1001_2 x1002_2 = some (r1, r2, r3)) ∧ Aside0 (kq ≤ k2) ∧ Aside0 (Kd.R (Kd.int .i64) 2 wc w.heap.size (fun _ => True) v265 x5_2) ∧ Aside0 (Kd.R k64 64 wc w.heap.size (fun _ => True) u6 x6_2) ∧ Aside0 (IsS102 w0 wc g s0_0 x1001_2 x1002_2) ∧ Aside0 (KeepBut w wc g none) ∧ Aside0 (Below w0.heap.size w0 wc))
     case first =>
      have H := HC15.out
      clear HC15
      by_cases c16 : x8_2 > 0
      ·rw [if_pos c16] at H
       have c16b0 : decide (0 < x8_2) = true := decide_eq_true c16
       clear c16
       (first | rw [c16b0] | (simp only [i64_w, i32_w]; rw [c16b0]) | skip)
       have H' := aa H
       clear H
       obtain ⟨Ao17, co17, eo17⟩ := ap HO_5.out
       subst eo17
       go_wp2
       go_meet
       case rel => exact ⟨_, (decide ((x5_2.length : Int) > 0)), (by first | rfl | (simp; done) | (simp [*]; done)), H', ⟨by have := HJ5.out; have := HK2.out; first | omega | exact Nat.le_refl _⟩, ⟨by (with_reducible repeat (first | apply ab | apply ac | apply af)); exact HO_5.out⟩, ⟨by (with_reducible repeat (first | apply ab | apply ac | apply af)); exact HO_6.out⟩, ⟨by repeat (first | (with_reducible first | exact HI0.out | apply IsS102.alloc | apply IsS102.drewN | apply IsS102.drew | apply IsS102.set_1 | apply IsS102.set_2) | exact HI0.out)⟩, ⟨by repeat (first | (with_reducible first | exact HK.out | apply KeepBut.set_ | apply au | apply ax | apply av) | exact HK.out)⟩, ⟨by repeat (first | (with_reducible first | exact HB.out | apply ah | apply ae | apply ag | refine ao ?_ (IsS102.ge HI0.out)) | exact HB.out)⟩⟩
      ·rw [if_neg c16] at H
       have c16b0 : decide (0 < x8_2) = false := decide_eq_false c16
       clear c16
       (first | rw [c16b0] | (simp only [i64_w, i32_w]; rw [c16b0]) | skip)
       have H' := aa H
       clear H
       go_wp2
       go_meet
       case rel => exact ⟨_, (false), (by first | rfl | (simp; done) | (simp [*]; done)), H', ⟨by have := HJ5.out; have := HK2.out; first | omega | exact Nat.le_refl _⟩, ⟨by (with_reducible repeat (first | apply ab | apply ac | apply af)); exact HO_5.out⟩, ⟨by (with_reducible repeat (first | apply ab | apply ac | apply af)); exact HO_6.out⟩, ⟨by repeat (first | (with_reducible first | exact HI0.out | apply IsS102.alloc | apply IsS102.drewN | apply IsS102.drew | apply IsS102.set_1 | apply IsS102.set_2) | exact HI0.out)⟩, ⟨by repeat (first | (with_reducible first | exact HK.out | apply KeepBut.set_ | apply au | apply ax | apply av) | exact HK.out)⟩, ⟨by repeat (first | (with_reducible first | exact HB.out | apply ah | apply ae | apply ag | refine ao ?_ (IsS102.ge HI0.out)) | exact HB.out)⟩⟩
     case rest =>
      clear HC15
      try clear c1
      try clear p2
      try clear c6
      try clear p6
      try clear c8
      try clear c11
      try clear c12
      try clear c16
      try clear c16b0
      try clear p2
      try clear p6
      obtain ⟨kq, x28_14, rfl, HA, HJ14, HO_5, HO_6, HI0, HK, HB⟩ := hcut
      cases kq with
      | zero => exact absurd HA.out (by simp [spec_l22DrawSteps.j2])
      | succ kj14 =>
       have H := HA.out
       clear HA
       simp only [spec_l22DrawSteps.j2] at H
       by_cases c18 : x28_14 = true
       ·subst c18
        have H1 := H; rw [if_pos rfl] at H1
        clear H
        have H := H1
        clear H1
        replace H := bm.mp H
        obtain ⟨⟨t279, t280, t281⟩, A190, H⟩ := H
        (try dsimp only at H)
        have A19 := aa A190
        clear A190
        by_cases c20 : 0 ≤ t279
        ·rw [if_pos c20] at H
         have c20b0 : decide (0 ≤ t279) = true := decide_eq_true c20
         clear c20
         by_cases c21 : t279 < (x5_2.length : Int)
         ·rw [if_pos c21] at H
          have c21b0 : decide (t279 < (x5_2.length : Int)) = true := decide_eq_true c21
          clear c21
          replace H := bm.mp H
          obtain ⟨t284, A220, H⟩ := H
          (try dsimp only at H)
          have A22 := aa A220
          clear A220
          replace H := bm.mp H
          obtain ⟨t285, A230, H⟩ := H
          (try dsimp only at H)
          have A23 := aa A230
          clear A230
          replace H := bm.mp H
          obtain ⟨⟨t286, t287, t288⟩, A240, H⟩ := H
          (try dsimp only at H)
          have A24 := aa A240
          clear A240
          obtain ⟨y289, hy289⟩ : ∃ y_ : List Int, y_ = (x5_2.set (t279 : Int).toNat (Int.tmod (wrap64 ((wrap64 (t285 + 1)) + t286)) 4)) := ⟨_, rfl⟩
          replace H : (if x6_2.length < 5864062014805 then (spec_l22DrawSteps.l0 kj14 l1 y289 (x6_2 ++ [(⟨t279, rd x5_2 t279, Int.tmod (wrap64 ((wrap64 (t285 + 1)) + t286)) 4⟩ : S64)]) (wrap64 (x8_2 - 1)) s0_0 t287 t288) else (none)) = some (r1, r2, r3) := by first | (rw [hy289]; with_reducible exact H) | (have H2_ := (Option.bind_some _ _).symm.trans H; rw [hy289]; with_reducible exact H2_) | (have H2_ := (Option.bind_some _ _).symm.trans H; with_reducible exact H2_) | with_reducible exact H | (rw [hy289]; exact H) | exact H
          have Ny289 := aa hy289
          clear hy289
          by_cases c26 : x6_2.length < 5864062014805
          ·rw [if_pos c26] at H
           have LMc26 := aa c26
           clear c26
           obtain ⟨y290, hy290⟩ : ∃ y_ : List (S64), y_ = (x6_2 ++ [(⟨t279, rd x5_2 t279, Int.tmod (wrap64 ((wrap64 (t285 + 1)) + t286)) 4⟩ : S64)]) := ⟨_, rfl⟩
           replace H : (spec_l22DrawSteps.l0 kj14 l1 y289 y290 (wrap64 (x8_2 - 1)) s0_0 t287 t288) = some (r1, r2, r3) := by first | (rw [hy290]; with_reducible exact H) | (have H2_ := (Option.bind_some _ _).symm.trans H; rw [hy290]; with_reducible exact H2_) | (have H2_ := (Option.bind_some _ _).symm.trans H; with_reducible exact H2_) | with_reducible exact H | (rw [hy290]; exact H) | exact H
           have Ny290 := aa hy290
           clear hy290
           have H' := aa H
           clear H
           obtain ⟨Ao27, co27, eo27⟩ := ap HO_5.out
           subst eo27
           go_wp2_with (first | ((with_reducible refine gate_callee (f := 88) rfl ?_); refine goesL_ (some 34) rfl rfl Try.func88 (by kernel_rfl) rfl #[.pointer (some ⟨g, 0, none⟩), .int .i64 (x5_2.length : Int)] rfl (by (try simp only [List.map_toArray, List.map_cons, List.map_nil]); first | done | rfl | (simp only [List.length_drop, List.length_take]; rfl)) ?_; (with_reducible refine (spec_l00Src_pick.calls g s0_0 x1001_2 x1002_2 (x5_2.length : Int) t279 t280 t281 w0 _ ?side1 ?side2 A19.out).mono ?_); (case side1 => repeat (first | (with_reducible first | exact HI0.out | apply IsS102.alloc | apply IsS102.drewN | apply IsS102.drew | apply IsS102.set_1 | apply IsS102.set_2) | exact HI0.out)); (case side2 => repeat (first | (with_reducible first | exact HB.out | apply ah | apply ae | apply ag | refine ao ?_ (IsS102.ge HI0.out)) | exact HB.out)); rintro e w28 ⟨rfl, hi, hb, hk⟩; refine ⟨_, rfl, ?_⟩; have n0_ := aa (an (bf (IsS102.apart (show IsS102 w0 _ g s0_0 x1001_2 x1002_2 from by repeat (first | (with_reducible first | exact HI0.out | apply IsS102.alloc | apply IsS102.drewN | apply IsS102.drew | apply IsS102.set_1 | apply IsS102.set_2) | exact HI0.out)) (by (with_reducible repeat (first | apply ab | apply ac | apply af)); exact HO_5.out) (by decide)) hk (fun _ h => h.2)) (fun _ h => h.1)); have n1_ := aa (an (bf (IsS102.apart (show IsS102 w0 _ g s0_0 x1001_2 x1002_2 from by repeat (first | (with_reducible first | exact HI0.out | apply IsS102.alloc | apply IsS102.drewN | apply IsS102.drew | apply IsS102.set_1 | apply IsS102.set_2) | exact HI0.out)) (by (with_reducible repeat (first | apply ab | apply ac | apply af)); exact HO_6.out) (by decide)) hk (fun _ h => h.2)) (fun _ h => h.1)); have n2_ := aa (KeepBut.trans (by repeat (first | (with_reducible first | exact HK.out | apply KeepBut.set_ | apply au | apply ax | apply av) | exact HK.out)) hk (.inl rfl)); have n3_ := aa (hb); have n4_ := aa (hi); clear HO_5; clear HO_6; clear HK; clear HB; clear HI0; have HO_5 := n0_; have HO_6 := n1_; have HK := n2_; have HB := n3_; have HI0 := n4_; clear n0_ n1_ n2_ n3_ n4_; (try clear hb); (try clear hb2); (try clear hk); (try clear hi)) | ((with_reducible refine gate_dst (N := 9) rfl ?_); (try (refine gate_guard (by rfl) ?_; dsimp only)); refine box_event ?hg (N := 9) ?hd (cs := #[.int .i64 0, .int .i64 0, .int .i64 0]) (t := 64) ?hr ?_; (case hd => rfl); (case hg => rfl); (case hr => first | (go_simp; done) | (go_simp; rfl)); intro gb282 hg w29 hbox hb; have n0_ := aa (aq (by (with_reducible repeat (first | apply ab | apply ac | apply af)); exact HO_5.out) hb); have n1_ := aa (aq (Kd.R_elderB (by (with_reducible repeat (first | apply ab | apply ac | apply af)); exact HO_6.out) gb282 (Nat.le_of_eq hg.symm)) hb); have n2_ := aa (IsS102.below (by repeat (first | (with_reducible first | exact HI0.out | apply IsS102.alloc | apply IsS102.drewN | apply IsS102.drew | apply IsS102.set_1 | apply IsS102.set_2) | exact HI0.out)) hb); have n3_ := aa (KeepBut.trans (by repeat (first | (with_reducible first | exact HK.out | apply KeepBut.set_ | apply au | apply ax | apply av) | exact HK.out)) (KeepBut.of_below hb g none) (.inl rfl)); have n4_ := aa (ay (by repeat (first | (with_reducible first | exact HB.out | apply ah | apply ae | apply ag | refine ao ?_ (IsS102.ge HI0.out)) | exact HB.out)) hb); have n5_ := aa (hbox); have n6_ := aa ((by rw [hg]; exact (keep_size (w := w) (g := g) (row := none) (by repeat (first | (with_reducible first | exact HK.out | apply KeepBut.set_ | apply au | apply ax | apply av) | exact HK.out))) : w.heap.size ≤ gb282)); have n7_ := aa ((Nat.le_trans HW0.out (by rw [hg]; exact (keep_size (w := w) (g := g) (row := none) (by repeat (first | (with_reducible first | exact HK.out | apply KeepBut.set_ | apply au | apply ax | apply av) | exact HK.out))) : w.heap.size ≤ gb282) : w0.heap.size ≤ gb282)); have n8_ := aa ((by rw [hg]; exact Nat.ne_of_lt (IsS102.lt (show IsS102 w0 _ g s0_0 t280 t281 from by repeat (first | (with_reducible first | exact HI0.out | apply IsS102.alloc | apply IsS102.drewN | apply IsS102.drew | apply IsS102.set_1 | apply IsS102.set_2) | exact HI0.out))) : g ≠ gb282)); have n9_ := aa ((by rw [hg]; exact Nat.ne_of_gt (IsS102.lt (show IsS102 w0 _ g s0_0 t280 t281 from by repeat (first | (with_reducible first | exact HI0.out | apply IsS102.alloc | apply IsS102.drewN | apply IsS102.drew | apply IsS102.set_1 | apply IsS102.set_2) | exact HI0.out))) : gb282 ≠ g)); clear HO_5; clear HO_6; clear HI0; clear HK; clear HB; have HO_5 := n0_; have HO_6 := n1_; have HI0 := n2_; have HK := n3_; have HB := n4_; have BK282 := n5_; have GW282 := n6_; have GE282 := n7_; have NB0_282 := n8_; have NB282_0 := n9_; clear n0_ n1_ n2_ n3_ n4_ n5_ n6_ n7_ n8_ n9_; clear hb hbox hg; have hnb30 := NB282_0.out; have hnc30 := NB0_282.out; have hcz31_0 : w29.cell? ⟨gb282, 0, none⟩ = some (.int .i64 0) := (be BK282.out 0).trans rfl; have hcz31_1 : w29.cell? ⟨gb282, 1, none⟩ = some (.int .i64 0) := (be BK282.out 1).trans rfl; have hcz31_2 : w29.cell? ⟨gb282, 2, none⟩ = some (.int .i64 0) := (be BK282.out 2).trans rfl; have hfz31_0 := bb BK282.out 0; have hfz31_1 := bb BK282.out 1; have hfz31_2 := bb BK282.out 2; have hld_ : ((((w29.setCell ⟨gb282, 0, none⟩ (.int .i64 t279)).setCell ⟨gb282, 1, none⟩ (.int .i64 0)).setCell ⟨gb282, 2, none⟩ (.int .i64 0)).setCell ⟨gb282, 1, none⟩ (.int .i64 (rd x5_2 t279))).cell? ⟨gb282, 1, none⟩ = some (.int .i64 (rd x5_2 t279)) := (be (show ((((w29.setCell ⟨gb282, 0, none⟩ (.int .i64 t279)).setCell ⟨gb282, 1, none⟩ (.int .i64 0)).setCell ⟨gb282, 2, none⟩ (.int .i64 0)).setCell ⟨gb282, 1, none⟩ (.int .i64 (rd x5_2 t279))).heap[gb282]? = some (.cells #[.int .i64 t279, .int .i64 (rd x5_2 t279), .int .i64 0] 64 (0, 0)) from by refine blk_put (cs := #[.int .i64 t279, .int .i64 0, .int .i64 0]) ?_ 1 _ rfl; refine blk_put (cs := #[.int .i64 t279, .int .i64 0, .int .i64 0]) ?_ 2 _ rfl; refine blk_put (cs := #[.int .i64 t279, .int .i64 0, .int .i64 0]) ?_ 1 _ rfl; refine blk_put (cs := #[.int .i64 0, .int .i64 0, .int .i64 0]) ?_ 0 _ rfl; exact BK282.out) 1).trans rfl; have p283 : 0 ≤ (t279 : Int) := of_decide_eq_true (by first | (with_reducible assumption) | assumption); have q283 : t279 < (x5_2.length : Int) := of_decide_eq_true (by first | (with_reducible assumption) | assumption); obtain ⟨ad283, e283, hx283_0⟩ := bj (ai HO_5.out).2.2 t279 p283 q283; cases e283; have hn283_0 : ad283.block ≠ gb282 := Kd.own_blk (Kd.R_ne HO_5.out BK282.out (by decide)); have hn283_1 : ad283.block ≠ gb282 := Kd.own_blk (Kd.R_ne HO_5.out BK282.out (by decide)); have hn283_2 : ad283.block ≠ gb282 := Kd.own_blk (Kd.R_ne HO_5.out BK282.out (by decide)); replace hx283_0 := (cell_far (p := ⟨gb282, 0, none⟩) (by first | (rw [bg]; exact hn283_0) | (show (Addr.add _ _).block ≠ _; rw [bg]; exact hn283_0) | exact hn283_0) (.int .i64 t279)).trans hx283_0; replace hx283_0 := (cell_far (p := ⟨gb282, 1, none⟩) (by first | (rw [bg]; exact hn283_1) | (show (Addr.add _ _).block ≠ _; rw [bg]; exact hn283_1) | exact hn283_1) (.int .i64 0)).trans hx283_0; replace hx283_0 := (cell_far (p := ⟨gb282, 2, none⟩) (by first | (rw [bg]; exact hn283_2) | (show (Addr.add _ _).block ≠ _; rw [bg]; exact hn283_2) | exact hn283_2) (.int .i64 0)).trans hx283_0; clear hn283_0; clear hn283_1; clear hn283_2; replace p283 := eq_true p283; replace q283 := eq_true q283) | ((with_reducible refine gate_callee (f := 122) rfl ?_); refine goesL_ (some 44) rfl rfl Try.func122 (by kernel_rfl) rfl #[.int .i64 3, .int .i64 (rd x5_2 t279)] rfl (by (try simp only [List.map_toArray, List.map_cons, List.map_nil]); first | done | rfl | (simp only [List.length_drop, List.length_take]; rfl)) ?_; (with_reducible refine (spec_l00Min.calls 3 (rd x5_2 t279) t284 _ A22.out).mono ?_); rintro e w' ⟨rfl, ⟨nd, rfl⟩⟩; refine ⟨_, rfl, ?_⟩) | ((with_reducible refine gate_callee (f := 114) rfl ?_); refine goesL_ (some 45) rfl rfl Try.func114 (by kernel_rfl) rfl #[.int .i64 0, .int .i64 t284] rfl (by (try simp only [List.map_toArray, List.map_cons, List.map_nil]); first | done | rfl | (simp only [List.length_drop, List.length_take]; rfl)) ?_; (with_reducible refine (spec_l00Max.calls 0 t284 t285 _ A23.out).mono ?_); rintro e w' ⟨rfl, ⟨nd, rfl⟩⟩; refine ⟨_, rfl, ?_⟩) | ((with_reducible refine gate_callee (f := 88) rfl ?_); refine goesL_ (some 48) rfl rfl Try.func88 (by kernel_rfl) rfl #[.pointer (some ⟨g, 0, none⟩), .int .i64 3] rfl (by (try simp only [List.map_toArray, List.map_cons, List.map_nil]); first | done | rfl | (simp only [List.length_drop, List.length_take]; rfl)) ?_; (with_reducible refine (spec_l00Src_pick.calls g s0_0 t280 t281 3 t286 t287 t288 w0 _ ?side1 ?side2 A24.out).mono ?_); (case side1 => repeat (first | (with_reducible first | exact HI0.out | apply IsS102.alloc | apply IsS102.drewN | apply IsS102.drew | apply IsS102.set_1 | apply IsS102.set_2 | refine IsS102.far ?_ NB0_282.out _) | exact HI0.out)); (case side2 => repeat (first | (with_reducible first | exact HB.out | apply ah | apply ae | apply ag | refine ao ?_ (IsS102.ge HI0.out) | refine ao ?_ GE282.out) | exact HB.out)); rintro e w32 ⟨rfl, hi, hb, hk⟩; refine ⟨_, rfl, ?_⟩; have n0_ := aa (an (bf (IsS102.apart (show IsS102 w0 _ g s0_0 t280 t281 from by repeat (first | (with_reducible first | exact HI0.out | apply IsS102.alloc | apply IsS102.drewN | apply IsS102.drew | apply IsS102.set_1 | apply IsS102.set_2 | refine IsS102.far ?_ NB0_282.out _) | exact HI0.out)) (by (with_reducible repeat (first | apply ab | apply ac | apply af)); exact (an (Kd.R_far (p := ⟨gb282, 1, none⟩) (Kd.R_far (p := ⟨gb282, 2, none⟩) (Kd.R_far (p := ⟨gb282, 1, none⟩) (Kd.R_far (p := ⟨gb282, 0, none⟩) (Kd.R_types HO_5.out BK282.out (by decide)) (fun _ hk => hk.2) (.int .i64 t279)) (fun _ hk => hk.2) (.int .i64 0)) (fun _ hk => hk.2) (.int .i64 0)) (fun _ hk => hk.2) (.int .i64 (rd x5_2 t279))) (fun _ h_ => h_.1))) (by decide)) hk (fun _ h => h.2)) (fun _ h => h.1)); have n1_ := aa (an (bf (IsS102.apart (show IsS102 w0 _ g s0_0 t280 t281 from by repeat (first | (with_reducible first | exact HI0.out | apply IsS102.alloc | apply IsS102.drewN | apply IsS102.drew | apply IsS102.set_1 | apply IsS102.set_2 | refine IsS102.far ?_ NB0_282.out _) | exact HI0.out)) (by (with_reducible repeat (first | apply ab | apply ac | apply af)); exact (an (Kd.R_far (p := ⟨gb282, 1, none⟩) (Kd.R_far (p := ⟨gb282, 2, none⟩) (Kd.R_far (p := ⟨gb282, 1, none⟩) (Kd.R_far (p := ⟨gb282, 0, none⟩) (an HO_6.out (fun k_ hk => (⟨hk, hk.2⟩ : _ ∧ k_ ≠ gb282))) (fun _ hk => hk.2) (.int .i64 t279)) (fun _ hk => hk.2) (.int .i64 0)) (fun _ hk => hk.2) (.int .i64 0)) (fun _ hk => hk.2) (.int .i64 (rd x5_2 t279))) (fun _ h_ => h_.1))) (by decide)) hk (fun _ h => h.2)) (fun _ h => h.1)); have n2_ := aa (KeepBut.blk hk (g' := gb282) (o := .cells #[.int .i64 t279, .int .i64 (rd x5_2 t279), .int .i64 0] 64 (0, 0)) (by (with_reducible repeat (first | refine bh ?_ _ | refine bk ?_ | refine bi ?_ _)); refine blk_put (cs := #[.int .i64 t279, .int .i64 0, .int .i64 0]) ?_ 1 _ rfl; (with_reducible repeat (first | refine bh ?_ _ | refine bk ?_ | refine bi ?_ _)); refine blk_put (cs := #[.int .i64 t279, .int .i64 0, .int .i64 0]) ?_ 2 _ rfl; (with_reducible repeat (first | refine bh ?_ _ | refine bk ?_ | refine bi ?_ _)); refine blk_put (cs := #[.int .i64 t279, .int .i64 0, .int .i64 0]) ?_ 1 _ rfl; (with_reducible repeat (first | refine bh ?_ _ | refine bk ?_ | refine bi ?_ _)); refine blk_put (cs := #[.int .i64 0, .int .i64 0, .int .i64 0]) ?_ 0 _ rfl; (with_reducible repeat (first | refine bh ?_ _ | refine bk ?_ | refine bi ?_ _)); exact BK282.out) NB282_0.out (by simp)); have n3_ := aa (KeepBut.trans (by repeat (first | (with_reducible first | exact HK.out | apply KeepBut.set_ | apply au | apply ax | apply av | refine keep_far ?_ GW282.out _) | exact HK.out)) hk (.inl rfl)); have n4_ := aa (hb); have n5_ := aa (hi); clear HO_5; clear HO_6; clear BK282; clear HK; clear HB; clear HI0; have HO_5 := n0_; have HO_6 := n1_; have BK282 := n2_; have HK := n3_; have HB := n4_; have HI0 := n5_; clear n0_ n1_ n2_ n3_ n4_ n5_; (try clear hb); (try clear hb2); (try clear hk); (try clear hi); have hcz33_0 : w32.cell? ⟨gb282, 0, none⟩ = some (.int .i64 t279) := (be BK282.out 0).trans rfl; have hcz33_1 : w32.cell? ⟨gb282, 1, none⟩ = some (.int .i64 (rd x5_2 t279)) := (be BK282.out 1).trans rfl; have hcz33_2 : w32.cell? ⟨gb282, 2, none⟩ = some (.int .i64 0) := (be BK282.out 2).trans rfl; have hfz33_0 := bb BK282.out 0; have hfz33_1 := bb BK282.out 1; have hfz33_2 := bb BK282.out 2) | ((with_reducible refine gate_store (t := 2) (p := 51) rfl ?_); refine store_event (t := 2) (p := 51) (v := ?vo_w34) (w1 := (w32.setCell ⟨gb282, 2, none⟩ (.int .i64 (Int.tmod (wrap64 ((wrap64 (t285 + 1)) + t286)) 4)))) ?hg ?ho ?hn ?hr ?_; (case ho => rfl); (case hg => rfl); (case hn => rfl); (case hr => first | (go_simp; done) | (go_simp; rfl)); intro w34 hw; have n0_ : Aside0 (Kd.R (Kd.int .i64) 2 w34 w.heap.size (fun _ => True) (.slice (some ad283) x5_2.length co27) x5_2) := ⟨(by rw [hw]; exact (by (with_reducible repeat (first | apply ab | apply ac | apply af)); exact an (Kd.R_far (p := ⟨gb282, 2, none⟩) (Kd.R_types HO_5.out BK282.out (by decide)) (fun _ hk => hk.2) (.int .i64 (Int.tmod (wrap64 ((wrap64 (t285 + 1)) + t286)) 4))) (fun _ hk => trivial)))⟩; have n1_ : Aside0 (Kd.R k64 64 w34 w.heap.size (fun k_ => k_ ≠ gb282) u6 x6_2) := ⟨(by rw [hw]; exact (by (with_reducible repeat (first | apply ab | apply ac | apply af)); exact an (Kd.R_far (p := ⟨gb282, 2, none⟩) (an HO_6.out (fun k_ hk => (⟨hk, hk.2⟩ : _ ∧ k_ ≠ gb282))) (fun _ hk => hk.2) (.int .i64 (Int.tmod (wrap64 ((wrap64 (t285 + 1)) + t286)) 4))) (fun _ hk => hk.1.2)))⟩; have n2_ : Aside0 (w34.heap[gb282]? = some (.cells #[.int .i64 t279, .int .i64 (rd x5_2 t279), .int .i64 (Int.tmod (wrap64 ((wrap64 (t285 + 1)) + t286)) 4)] 64 (0, 0))) := ⟨(by rw [hw]; exact (by (with_reducible repeat (first | refine bh ?_ _ | refine bk ?_ | refine bi ?_ _)); refine blk_put (cs := #[.int .i64 t279, .int .i64 (rd x5_2 t279), .int .i64 0]) ?_ 2 _ rfl; (with_reducible repeat (first | refine bh ?_ _ | refine bk ?_ | refine bi ?_ _)); exact BK282.out))⟩; have n3_ : Aside0 (IsS102 w0 w34 g s0_0 t287 t288) := ⟨(by rw [hw]; exact (by repeat (first | (with_reducible first | exact HI0.out | apply IsS102.alloc | apply IsS102.drewN | apply IsS102.drew | apply IsS102.set_1 | apply IsS102.set_2 | refine IsS102.far ?_ NB0_282.out _) | exact HI0.out)))⟩; have n4_ : Aside0 (KeepBut w w34 g none) := ⟨(by rw [hw]; exact (by repeat (first | (with_reducible first | exact HK.out | apply KeepBut.set_ | apply au | apply ax | apply av | refine keep_far ?_ GW282.out _) | exact HK.out)))⟩; have n5_ : Aside0 (Below w0.heap.size w0 w34) := ⟨(by rw [hw]; exact (by repeat (first | (with_reducible first | exact HB.out | apply ah | apply ae | apply ag | refine ao ?_ (IsS102.ge HI0.out) | refine ao ?_ GE282.out) | exact HB.out)))⟩; clear hw; clear HO_5; clear HO_6; clear BK282; clear HI0; clear HK; clear HB; have HO_5 := n0_; have HO_6 := n1_; have BK282 := n2_; have HI0 := n3_; have HK := n4_; have HB := n5_; clear n0_ n1_ n2_ n3_ n4_ n5_; have hcz35_0 : w34.cell? ⟨gb282, 0, none⟩ = some (.int .i64 t279) := (be BK282.out 0).trans rfl; have hcz35_1 : w34.cell? ⟨gb282, 1, none⟩ = some (.int .i64 (rd x5_2 t279)) := (be BK282.out 1).trans rfl; have hcz35_2 : w34.cell? ⟨gb282, 2, none⟩ = some (.int .i64 (Int.tmod (wrap64 ((wrap64 (t285 + 1)) + t286)) 4)) := (be BK282.out 2).trans rfl; have hfz35_0 := bb BK282.out 0; have hfz35_1 := bb BK282.out 1; have hfz35_2 := bb BK282.out 2; have p25 : 0 ≤ (t279 : Int) := of_decide_eq_true (by first | (with_reducible assumption) | assumption); have q25 : (t279 : Int) < ((x5_2.length : Int) : Int) := of_decide_eq_true (by first | (with_reducible assumption) | assumption); obtain ⟨go25, co25, eo25, gb25, gl25, cl25, HG25⟩ := Kd.R_form HO_5.out (by omega); (first | cases eo25 | (injection eo25 with ea_ en_ ec_; (first | subst ea_ | (injection ea_ with ea_; subst ea_)); subst ec_; clear en_)); have GB25 := aa gb25; have GG25 := aa HG25; clear gb25 gl25 HG25; (first | simp only [add_plain] at hx283_0 | skip); obtain ⟨hx25_0, hf25_0⟩ := Kd.R_celln 0 HO_5.out (t279 : Int) p25 q25; replace p25 := eq_true p25; replace q25 := eq_true q25; obtain ⟨hy36_, hz36_⟩ := Kd.R_celln 0 HO_5.out (t279 : Int) (of_decide_eq_true (by first | (with_reducible assumption) | assumption)) (of_decide_eq_true (by first | (with_reducible assumption) | assumption)); have HP36 := Kd.R_putg HO_5.out (t279 : Int) (Int.tmod (wrap64 ((wrap64 (t285 + 1)) + t286)) 4)) | ((with_reducible refine gate_store (t := 2) (p := 57) rfl ?_); refine store_event (t := 2) (p := 57) (v := ?vo_w37) (w1 := (w34.setCell ⟨go25, (t279 : Int).toNat, none⟩ (.int .i64 (Int.tmod (wrap64 ((wrap64 (t285 + 1)) + t286)) 4)))) ?hg ?ho ?hn ?hr ?_; (case ho => rfl); (case hg => rfl); (case hn => rfl); (case hr => first | (go_simp; done) | (go_simp; rfl)); intro w37 hw; have hg : w34.grownBy w37 (some go25) := (by rw [hw]; exact HP36.2); have hp_ : Kd.R (Kd.int .i64) 2 w37 w.heap.size (fun _ => True) (.slice (some ⟨go25, 0, none⟩) x5_2.length co27) y289 := (by rw [hw, Ny289.out]; exact HP36.1); clear HP36; have n0_ := aa (hp_); have n1_ := aa (Kd.R_over' (v := (.slice (some ⟨go25, 0, none⟩) x5_2.length co27)) (by (with_reducible repeat (first | apply ab | apply ac | apply af)); exact HO_6.out) (Kd.R_typed HO_5.out) (by decide) hg); have n2_ := aa (IsS102.grown (by repeat (first | (with_reducible first | exact HI0.out | apply IsS102.alloc | apply IsS102.drewN | apply IsS102.drew | apply IsS102.set_1 | apply IsS102.set_2 | refine IsS102.far ?_ NB0_282.out _) | exact HI0.out)) hg (IsS102.own_ne HI0.out HO_5.out (by decide))); have n3_ := aa (blk_grown (g := gb282) (o := .cells #[.int .i64 t279, .int .i64 (rd x5_2 t279), .int .i64 (Int.tmod (wrap64 ((wrap64 (t285 + 1)) + t286)) 4)] 64 (0, 0)) (by (with_reducible repeat (first | refine bh ?_ _ | refine bk ?_ | refine bi ?_ _)); exact BK282.out) hg (Kd.R_ne HO_5.out BK282.out (by decide))); have n4_ := aa ((by rw [hw]; exact ao (HB.out) (Nat.le_trans HL.out GB25.out) : Below w0.heap.size w0 w37)); have n5_ := aa (KeepBut.trans (by repeat (first | (with_reducible first | exact HK.out | apply KeepBut.set_ | apply au | apply ax | apply av | refine keep_far ?_ GW282.out _) | exact HK.out)) (KeepBut.of_grown hg g) (Kd.R_base2 HO_5.out)); clear HO_5; clear HO_6; clear HI0; clear BK282; clear HB; clear HK; have HO_5 := n0_; have HO_6 := n1_; have HI0 := n2_; have BK282 := n3_; have HB := n4_; have HK := n5_; clear n0_ n1_ n2_ n3_ n4_ n5_; clear hg hw hp_; have hcz38_0 : w37.cell? ⟨gb282, 0, none⟩ = some (.int .i64 t279) := (be BK282.out 0).trans rfl; have hcz38_1 : w37.cell? ⟨gb282, 1, none⟩ = some (.int .i64 (rd x5_2 t279)) := (be BK282.out 1).trans rfl; have hcz38_2 : w37.cell? ⟨gb282, 2, none⟩ = some (.int .i64 (Int.tmod (wrap64 ((wrap64 (t285 + 1)) + t286)) 4)) := (be BK282.out 2).trans rfl; have hfz38_0 := bb BK282.out 0; have hfz38_1 := bb BK282.out 1; have hfz38_2 := bb BK282.out 2) | ((with_reducible refine gate_builtin (b := .append) (xs := #[.tmp 58, .tmp 60]) rfl ?_); (try (refine gate_guard (by rfl) ?_; dsimp only)); at_builtin; refine Kd.R_append k64 w.heap.size rfl (.tmp 58) (.tmp 60) 41 64 (.agg #[(.int .i64 0), (.int .i64 0), (.int .i64 0)]) 24 rfl Try.underlying41 info64 rfl (by decide) (by omega) u6 x6_2 (⟨t279, rd x5_2 t279, Int.tmod (wrap64 ((wrap64 (t285 + 1)) + t286)) 4⟩ : S64) [.int .i64 t279, .int .i64 (rd x5_2 t279), .int .i64 (Int.tmod (wrap64 ((wrap64 (t285 + 1)) + t286)) 4)] (fun k_ => k_ ≠ gb282) (fun _ => False) rfl rfl ?aP (fun _ hk => hk.elim) ?aF ?aO (Below.refl _ _) ?aS ?aL ?_; (case aP => exact k64_mkM _ _ _ (⟨t279, rd x5_2 t279, Int.tmod (wrap64 ((wrap64 (t285 + 1)) + t286)) 4⟩ : S64)); (case aF => exact (fun k_ hk => Kd.freshB (g := gb282) (o := .cells #[.int .i64 t279, .int .i64 (rd x5_2 t279), .int .i64 (Int.tmod (wrap64 ((wrap64 (t285 + 1)) + t286)) 4)] 64 (0, 0)) (by (with_reducible repeat (first | refine bh ?_ _ | refine bk ?_ | refine bi ?_ _)); exact BK282.out) k_ hk)); (case aO => exact (by (with_reducible repeat (first | apply ab | apply ac | apply af)); exact HO_6.out)); (case aS => exact (keep_size (w := w) (g := g) (row := none) (by repeat (first | (with_reducible first | exact HK.out | apply KeepBut.set_ | apply au | apply ax | apply av | refine keep_far ?_ GW282.out _) | exact HK.out)))); (case aL => have := LMc26.out; omega); intro v291 w39 ho hb hg hat; rw [← Ny290.out] at ho; have n0_ := aa (Kd.R_over' (by (with_reducible repeat (first | apply ab | apply ac | apply af)); exact HO_5.out) (Kd.R_typed (by (with_reducible repeat (first | apply ab | apply ac | apply af)); exact HO_6.out)) (by decide) hg); have n1_ := aa (IsS102.grown (by repeat (first | (with_reducible first | exact HI0.out | apply IsS102.alloc | apply IsS102.drewN | apply IsS102.drew | apply IsS102.set_1 | apply IsS102.set_2 | refine IsS102.far ?_ NB0_282.out _) | exact HI0.out)) hg (IsS102.own_ne HI0.out HO_6.out (by decide))); have n2_ := aa (blk_grown (g := gb282) (o := .cells #[.int .i64 t279, .int .i64 (rd x5_2 t279), .int .i64 (Int.tmod (wrap64 ((wrap64 (t285 + 1)) + t286)) 4)] 64 (0, 0)) (by (with_reducible repeat (first | refine bh ?_ _ | refine bk ?_ | refine bi ?_ _)); exact BK282.out) hg (Kd.R_away HO_6.out (fun _ hk => hk))); have n3_ := aa (below_weaken (by repeat (first | (with_reducible first | exact HB.out | apply ah | apply ae | apply ag | refine ao ?_ (IsS102.ge HI0.out) | refine ao ?_ GE282.out) | exact HB.out)) HL.out hb); have n4_ := aa (KeepBut.trans (by repeat (first | (with_reducible first | exact HK.out | apply KeepBut.set_ | apply au | apply ax | apply av | refine keep_far ?_ GW282.out _) | exact HK.out)) (KeepBut.of_grown hg g) (Kd.R_base2 HO_6.out)); have n5_ := aa (ho); clear HO_5; clear HI0; clear BK282; clear HB; clear HK; clear HO_6; have HO_5 := n0_; have HI0 := n1_; have BK282 := n2_; have HB := n3_; have HK := n4_; have HO292 := n5_; clear n0_ n1_ n2_ n3_ n4_ n5_; clear ho hb hg hat))
           go_roundg kj14
           case measure => have := HJ5.out; have := HK2.out; have := HJ14.out; omega
           case rel => exact ⟨(y289), (y290), (wrap64 (x8_2 - 1)), (t287), (t288), (by first | rfl | (simp; done) | (simp [*]; done)), H', ⟨by have := HJ5.out; have := HK2.out; have := HJ14.out; omega⟩, ⟨by (with_reducible repeat (first | apply ab | apply ac | apply af)); exact HO_5.out⟩, ⟨by (with_reducible repeat (first | apply ab | apply ac | apply af)); exact an HO292.out (fun _ hk => trivial)⟩, ⟨by repeat (first | (with_reducible first | exact HI0.out | apply IsS102.alloc | apply IsS102.drewN | apply IsS102.drew | apply IsS102.set_1 | apply IsS102.set_2 | refine IsS102.far ?_ NB0_282.out _) | exact HI0.out)⟩, ⟨by repeat (first | (with_reducible first | exact HK.out | apply KeepBut.set_ | apply au | apply ax | apply av | refine keep_far ?_ GW282.out _) | exact HK.out)⟩, ⟨by repeat (first | (with_reducible first | exact HB.out | apply ah | apply ae | apply ag | refine ao ?_ (IsS102.ge HI0.out) | refine ao ?_ GE282.out) | exact HB.out)⟩⟩
          ·rw [if_neg c26] at H
           exact absurd H (by simp)
         ·rw [if_neg c21] at H
          exact absurd H (by simp)
        ·rw [if_neg c20] at H
         exact absurd H (by simp)
       ·replace c18 := Bool.eq_false_iff.mpr c18
        subst c18
        have H1 := H; rw [if_neg (show ¬ (false = true) by decide)] at H1
        clear H
        have H := H1
        clear H1
        by_cases c40 : (x6_2.length : Int) > 0
        ·rw [if_pos c40] at H
         have c40b0 : decide (0 < (x6_2.length : Int)) = true := decide_eq_true c40
         have c40b1 : decide (0 < x6_2.length) = true := decide_eq_true (by omega)
         clear c40
         replace H := bm.mp H
         obtain ⟨⟨t293, t294, t295⟩, A410, H⟩ := H
         (try dsimp only at H)
         have A41 := aa A410
         clear A410
         by_cases c42 : 0 ≤ t293
         ·rw [if_pos c42] at H
          have c42b0 : decide (0 ≤ t293) = true := decide_eq_true c42
          clear c42
          by_cases c43 : t293 < (x6_2.length : Int)
          ·rw [if_pos c43] at H
           have c43b0 : decide (t293 < (x6_2.length : Int)) = true := decide_eq_true c43
           clear c43
           replace H := bm.mp H
           obtain ⟨⟨t297, t298, t299⟩, A440, H⟩ := H
           (try dsimp only at H)
           have A44 := aa A440
           clear A440
           by_cases c45 : t297 = 0
           ·rw [if_pos c45] at H
            have c45b0 : (t297 == 0) = true := beq_iff_eq.mpr c45
            have c45b1 : (t297 != 0) = false := bne_eq_false_iff_eq.mpr c45
            clear c45
            obtain ⟨y300, hy300⟩ : ∃ y_ : List Int, y_ = (([(-1), 0, wrap64 ((l1.length : Int) - 1), (l1.length : Int)] : List Int)) := ⟨_, rfl⟩
            replace H : ((spec_l00Src_among.f s0_0 t298 t299 y300).bind fun bt303 => (some ((x6_2.set (t293 : Int).toNat (⟨bt303.1, (rd_T64 x6_2 t293).f1, (rd_T64 x6_2 t293).f2⟩ : S64)), bt303.2.1, bt303.2.2))) = some (r1, r2, r3) := by first | (rw [hy300]; with_reducible exact H) | (have H2_ := (Option.bind_some _ _).symm.trans H; rw [hy300]; with_reducible exact H2_) | (have H2_ := (Option.bind_some _ _).symm.trans H; with_reducible exact H2_) | with_reducible exact H | (rw [hy300]; exact H) | exact H
            have Ny300 := aa hy300
            clear hy300
            replace H := bm.mp H
            obtain ⟨⟨t303, t304, t305⟩, A460, H⟩ := H
            (try dsimp only at H)
            have A46 := aa A460
            clear A460
            obtain ⟨y306, hy306⟩ : ∃ y_ : List (S64), y_ = (x6_2.set (t293 : Int).toNat (⟨t303, (rd_T64 x6_2 t293).f1, (rd_T64 x6_2 t293).f2⟩ : S64)) := ⟨_, rfl⟩
            replace H : (some (y306, t304, t305)) = some (r1, r2, r3) := by first | (rw [hy306]; with_reducible exact H) | (have H2_ := (Option.bind_some _ _).symm.trans H; rw [hy306]; with_reducible exact H2_) | (have H2_ := (Option.bind_some _ _).symm.trans H; with_reducible exact H2_) | with_reducible exact H | (rw [hy306]; exact H) | exact H
            have Ny306 := aa hy306
            clear hy306
            simp only [Option.some.injEq, Prod.mk.injEq] at H
            obtain ⟨rfl, rfl, rfl⟩ := H
            obtain ⟨Ao48, co48, eo48⟩ := ap HO_6.out
            subst eo48
            go_wp2_with (first | ((with_reducible refine gate_callee (f := 88) rfl ?_); refine goesL_ (some 69) rfl rfl Try.func88 (by kernel_rfl) rfl #[.pointer (some ⟨g, 0, none⟩), .int .i64 (x6_2.length : Int)] rfl (by (try simp only [List.map_toArray, List.map_cons, List.map_nil]); first | done | rfl | (simp only [List.length_drop, List.length_take]; rfl)) ?_; (with_reducible refine (spec_l00Src_pick.calls g s0_0 x1001_2 x1002_2 (x6_2.length : Int) t293 t294 t295 w0 _ ?side1 ?side2 A41.out).mono ?_); (case side1 => repeat (first | (with_reducible first | exact HI0.out | apply IsS102.alloc | apply IsS102.drewN | apply IsS102.drew | apply IsS102.set_1 | apply IsS102.set_2) | exact HI0.out)); (case side2 => repeat (first | (with_reducible first | exact HB.out | apply ah | apply ae | apply ag | refine ao ?_ (IsS102.ge HI0.out)) | exact HB.out)); rintro e w49 ⟨rfl, hi, hb, hk⟩; refine ⟨_, rfl, ?_⟩; have n0_ := aa (an (bf (IsS102.apart (show IsS102 w0 _ g s0_0 x1001_2 x1002_2 from by repeat (first | (with_reducible first | exact HI0.out | apply IsS102.alloc | apply IsS102.drewN | apply IsS102.drew | apply IsS102.set_1 | apply IsS102.set_2) | exact HI0.out)) (by (with_reducible repeat (first | apply ab | apply ac | apply af)); exact HO_5.out) (by decide)) hk (fun _ h => h.2)) (fun _ h => h.1)); have n1_ := aa (an (bf (IsS102.apart (show IsS102 w0 _ g s0_0 x1001_2 x1002_2 from by repeat (first | (with_reducible first | exact HI0.out | apply IsS102.alloc | apply IsS102.drewN | apply IsS102.drew | apply IsS102.set_1 | apply IsS102.set_2) | exact HI0.out)) (by (with_reducible repeat (first | apply ab | apply ac | apply af)); exact HO_6.out) (by decide)) hk (fun _ h => h.2)) (fun _ h => h.1)); have n2_ := aa (KeepBut.trans (by repeat (first | (with_reducible first | exact HK.out | apply KeepBut.set_ | apply au | apply ax | apply av) | exact HK.out)) hk (.inl rfl)); have n3_ := aa (hb); have n4_ := aa (hi); clear HO_5; clear HO_6; clear HK; clear HB; clear HI0; have HO_5 := n0_; have HO_6 := n1_; have HK := n2_; have HB := n3_; have HI0 := n4_; clear n0_ n1_ n2_ n3_ n4_; (try clear hb); (try clear hb2); (try clear hk); (try clear hi); have p296 : 0 ≤ (t293 : Int) := of_decide_eq_true (by first | (with_reducible assumption) | assumption); have q296 : t293 < (x6_2.length : Int) := of_decide_eq_true (by first | (with_reducible assumption) | assumption); obtain ⟨ad296, e296, hx296_0, hx296_1, hx296_2⟩ := at_T64 (ai HO_6.out).2.2 t293 p296 q296; cases e296; replace p296 := eq_true p296; replace q296 := eq_true q296) | ((with_reducible refine gate_callee (f := 88) rfl ?_); refine goesL_ (some 72) rfl rfl Try.func88 (by kernel_rfl) rfl #[.pointer (some ⟨g, 0, none⟩), .int .i64 12] rfl (by (try simp only [List.map_toArray, List.map_cons, List.map_nil]); first | done | rfl | (simp only [List.length_drop, List.length_take]; rfl)) ?_; (with_reducible refine (spec_l00Src_pick.calls g s0_0 t294 t295 12 t297 t298 t299 w0 _ ?side1 ?side2 A44.out).mono ?_); (case side1 => repeat (first | (with_reducible first | exact HI0.out | apply IsS102.alloc | apply IsS102.drewN | apply IsS102.drew | apply IsS102.set_1 | apply IsS102.set_2) | exact HI0.out)); (case side2 => repeat (first | (with_reducible first | exact HB.out | apply ah | apply ae | apply ag | refine ao ?_ (IsS102.ge HI0.out)) | exact HB.out)); rintro e w50 ⟨rfl, hi, hb, hk⟩; refine ⟨_, rfl, ?_⟩; have n0_ := aa (an (bf (IsS102.apart (show IsS102 w0 _ g s0_0 t294 t295 from by repeat (first | (with_reducible first | exact HI0.out | apply IsS102.alloc | apply IsS102.drewN | apply IsS102.drew | apply IsS102.set_1 | apply IsS102.set_2) | exact HI0.out)) (by (with_reducible repeat (first | apply ab | apply ac | apply af)); exact HO_5.out) (by decide)) hk (fun _ h => h.2)) (fun _ h => h.1)); have n1_ := aa (an (bf (IsS102.apart (show IsS102 w0 _ g s0_0 t294 t295 from by repeat (first | (with_reducible first | exact HI0.out | apply IsS102.alloc | apply IsS102.drewN | apply IsS102.drew | apply IsS102.set_1 | apply IsS102.set_2) | exact HI0.out)) (by (with_reducible repeat (first | apply ab | apply ac | apply af)); exact HO_6.out) (by decide)) hk (fun _ h => h.2)) (fun _ h => h.1)); have n2_ := aa (KeepBut.trans (by repeat (first | (with_reducible first | exact HK.out | apply KeepBut.set_ | apply au | apply ax | apply av) | exact HK.out)) hk (.inl rfl)); have n3_ := aa (hb); have n4_ := aa (hi); clear HO_5; clear HO_6; clear HK; clear HB; clear HI0; have HO_5 := n0_; have HO_6 := n1_; have HK := n2_; have HB := n3_; have HI0 := n4_; clear n0_ n1_ n2_ n3_ n4_; (try clear hb); (try clear hb2); (try clear hk); (try clear hi)) | ((with_reducible refine gate_dst (N := 82) rfl ?_); (try (refine gate_guard (by rfl) ?_; dsimp only)); refine Kd.R_lit (Kd.int .i64) _ 2 ?hg (N := 82) ?hd (xs := ([(-1), 0, wrap64 ((l1.length : Int) - 1), (l1.length : Int)] : List Int)) (inner := [.int .i64 (-1), .int .i64 0, .int .i64 (wrap64 ((l1.length : Int) - 1)), .int .i64 (l1.length : Int)]) (ok := fun _ => True) (okp := fun _ => True) ?hr ?hp (fun _ hk => hk) trivial (Below.refl _ _) (Nat.le_refl _) (by simp) ?_; (case hd => rfl); (case hg => rfl); (case hr => first | (go_simp; done) | (go_simp; rfl)); (case hp => exact (Reps.one (show Kd.M (Kd.int .i64) _ _ _ (-1) [.int .i64 (-1)] from rfl) (Reps.one (show Kd.M (Kd.int .i64) _ _ _ 0 [.int .i64 0] from rfl) (Reps.one (show Kd.M (Kd.int .i64) _ _ _ (wrap64 ((l1.length : Int) - 1)) [.int .i64 (wrap64 ((l1.length : Int) - 1))] from rfl) (Reps.one (show Kd.M (Kd.int .i64) _ _ _ (l1.length : Int) [.int .i64 (l1.length : Int)] from rfl) (Reps.none _ _)))))); intro v301 w51 ho52 hb hg_ hnew_; clear hg_ hnew_; (first | rw [← Ny300.out] at ho52 | (simp only [Int.reduceToNat] at ho52; rw [← Ny300.out] at ho52)); have n0_ := aa (aw (by (with_reducible repeat (first | apply ab | apply ac | apply af)); exact HO_5.out) (az ho52) hb); have n1_ := aa (aq (by (with_reducible repeat (first | apply ab | apply ac | apply af)); exact HO_6.out) hb); have n2_ := aa (bd (ba ho52 (bc (by (with_reducible repeat (first | apply ab | apply ac | apply af)); exact HO_5.out))) (keep_size (w := w) (g := g) (row := none) (by repeat (first | (with_reducible first | exact HK.out | apply KeepBut.set_ | apply au | apply ax | apply av) | exact HK.out)))); have n3_ := aa (IsS102.below (by repeat (first | (with_reducible first | exact HI0.out | apply IsS102.alloc | apply IsS102.drewN | apply IsS102.drew | apply IsS102.set_1 | apply IsS102.set_2) | exact HI0.out)) hb); have n4_ := aa (KeepBut.trans (by repeat (first | (with_reducible first | exact HK.out | apply KeepBut.set_ | apply au | apply ax | apply av) | exact HK.out)) (KeepBut.of_below hb g none) (.inl rfl)); have n5_ := aa (ay (by repeat (first | (with_reducible first | exact HB.out | apply ah | apply ae | apply ag | refine ao ?_ (IsS102.ge HI0.out)) | exact HB.out)) hb); clear HO_5; clear HO_6; clear HI0; clear HK; clear HB; have HO_5 := n0_; have HO_6 := n1_; have HO302 := n2_; have HI0 := n3_; have HK := n4_; have HB := n5_; clear n0_ n1_ n2_ n3_ n4_ n5_; clear hb ho52; obtain ⟨Ao53, co53, eo53⟩ := ap HO302.out; subst eo53) | ((with_reducible refine gate_callee (f := 112) rfl ?_); refine goesL_ (some 83) rfl rfl Try.func112 (by kernel_rfl) rfl #[.pointer (some ⟨g, 0, none⟩), .slice Ao53 y300.length co53] rfl (by (try simp only [List.map_toArray, List.map_cons, List.map_nil]); first | done | rfl | (simp only [List.length_drop, List.length_take]; rfl)) ?_; (with_reducible refine (spec_l00Src_among.calls g s0_0 t298 t299 _ _ y300 t303 t304 t305 w0 _ ?side1 ?side2 ?side3 ?side4 ?side5 A46.out).mono ?_); (case side1 => repeat (first | (with_reducible first | exact HI0.out | apply IsS102.alloc | apply IsS102.drewN | apply IsS102.drew | apply IsS102.set_1 | apply IsS102.set_2) | exact HI0.out)); (case side2 => repeat (first | (with_reducible first | exact HB.out | apply ah | apply ae | apply ag | refine ao ?_ (IsS102.ge HI0.out)) | exact HB.out)); (case side3 => repeat (first | exact (ai HO302.out).2.2 | (with_reducible refine ak ?_ _) | (with_reducible refine al ?_ _) | (with_reducible refine am ?_))); (case side4 => exact (ai HO302.out).2.1); (case side5 => exact far_slice (IsS102.own_ne HI0.out HO302.out (by decide))); rintro e w54 ⟨rfl, hi, hb, hk⟩; refine ⟨_, rfl, ?_⟩; have n0_ := aa (an (bf (IsS102.apart (show IsS102 w0 _ g s0_0 t298 t299 from by repeat (first | (with_reducible first | exact HI0.out | apply IsS102.alloc | apply IsS102.drewN | apply IsS102.drew | apply IsS102.set_1 | apply IsS102.set_2) | exact HI0.out)) (by (with_reducible repeat (first | apply ab | apply ac | apply af)); exact HO_5.out) (by decide)) hk (fun _ h => h.2)) (fun _ h => h.1)); have n1_ := aa (an (bf (IsS102.apart (show IsS102 w0 _ g s0_0 t298 t299 from by repeat (first | (with_reducible first | exact HI0.out | apply IsS102.alloc | apply IsS102.drewN | apply IsS102.drew | apply IsS102.set_1 | apply IsS102.set_2) | exact HI0.out)) (by (with_reducible repeat (first | apply ab | apply ac | apply af)); exact HO_6.out) (by decide)) hk (fun _ h => h.2)) (fun _ h => h.1)); have n2_ := aa (an (bf (IsS102.apart (show IsS102 w0 _ g s0_0 t298 t299 from by repeat (first | (with_reducible first | exact HI0.out | apply IsS102.alloc | apply IsS102.drewN | apply IsS102.drew | apply IsS102.set_1 | apply IsS102.set_2) | exact HI0.out)) (by (with_reducible repeat (first | apply ab | apply ac | apply af)); exact HO302.out) (by decide)) hk (fun _ h => h.2)) (fun _ h => h.1)); have n3_ := aa (KeepBut.trans (by repeat (first | (with_reducible first | exact HK.out | apply KeepBut.set_ | apply au | apply ax | apply av) | exact HK.out)) hk (.inl rfl)); have n4_ := aa (hb); have n5_ := aa (hi); clear HO_5; clear HO_6; clear HO302; clear HK; clear HB; clear HI0; have HO_5 := n0_; have HO_6 := n1_; have HO302 := n2_; have HK := n3_; have HB := n4_; have HI0 := n5_; clear n0_ n1_ n2_ n3_ n4_ n5_; (try clear hb); (try clear hb2); (try clear hk); (try clear hi); have p47 : 0 ≤ (t293 : Int) := of_decide_eq_true (by first | (with_reducible assumption) | assumption); have q47 : (t293 : Int) < ((x6_2.length : Int) : Int) := of_decide_eq_true (by first | (with_reducible assumption) | assumption); obtain ⟨go47, co47, eo47, gb47, gl47, cl47, HG47⟩ := Kd.R_form HO_6.out (by omega); (first | cases eo47 | (injection eo47 with ea_ en_ ec_; (first | subst ea_ | (injection ea_ with ea_; subst ea_)); subst ec_; clear en_)); have GB47 := aa gb47; have GG47 := aa HG47; clear gb47 gl47 HG47; (first | simp only [add_plain] at hx296_0 | skip); (first | simp only [add_plain] at hx296_1 | skip); (first | simp only [add_plain] at hx296_2 | skip); obtain ⟨ce47, hcl47, hM47, hcc47, hfr47⟩ := Kd.R_elem HO_6.out z64 (t293 : Int) p47 q47; obtain rfl := k64_openM hM47; have hx47_0 : w54.cell? ⟨go47, (t293 : Int).toNat * 3, none⟩ = some (.int .i64 ((rd_T64 x6_2 t293).f0)) := hcc47 0 _ rfl; have hx47_1 : w54.cell? ⟨go47, (t293 : Int).toNat * 3 + 1, none⟩ = some (.int .i64 ((rd_T64 x6_2 t293).f1)) := hcc47 1 _ rfl; have hx47_2 : w54.cell? ⟨go47, (t293 : Int).toNat * 3 + 2, none⟩ = some (.int .i64 ((rd_T64 x6_2 t293).f2)) := hcc47 2 _ rfl; have hf47_0 : w54.frozen? ⟨go47, (t293 : Int).toNat * 3, none⟩ = false := hfr47 0; have hf47_1 : w54.frozen? ⟨go47, (t293 : Int).toNat * 3 + 1, none⟩ = false := hfr47 1; have hf47_2 : w54.frozen? ⟨go47, (t293 : Int).toNat * 3 + 2, none⟩ = false := hfr47 2; clear hcl47 hcc47 hfr47; (try clear hM47); replace p47 := eq_true p47; replace q47 := eq_true q47; have HX55 := aa (show Kd.R k64 64 w54 w.heap.size (fun _ => True) (.slice (some ⟨go47, 0, none⟩) x6_2.length co48) x6_2 from (by (with_reducible repeat (first | apply ab | apply ac | apply af)); exact HO_6.out)); obtain ⟨ce55, hcl55, hM55, hcc55, hfr55⟩ := Kd.R_elem HX55.out z64 (t293 : Int) (of_decide_eq_true (by first | (with_reducible assumption) | assumption)) (by have h_ : (t293 : Int) < ((x6_2.length : Int) : Int) := of_decide_eq_true (by first | (with_reducible assumption) | assumption); first | exact h_ | (have e_ := (ai HO_6.out).1; omega) | simpa using h_); obtain rfl := k64_openM hM55; have HP55 := Kd.R_seg HX55.out (t293 : Int) (of_decide_eq_true (by first | (with_reducible assumption) | assumption)) (by have h_ : (t293 : Int) < ((x6_2.length : Int) : Int) := of_decide_eq_true (by first | (with_reducible assumption) | assumption); first | exact h_ | (have e_ := (ai HO_6.out).1; omega) | simpa using h_) (seg := [.int .i64 t303]) (j := 0) hcl55 hcc55 (show 1 ≤ 3 from by decide) (x' := (⟨t303, (rd_T64 x6_2 t293).f1, (rd_T64 x6_2 t293).f2⟩ : S64)) (k64_mkM _ _ _ (⟨t303, (rd_T64 x6_2 t293).f1, (rd_T64 x6_2 t293).f2⟩ : S64) ) (fun _ hk => hk); have hx55_0 := hcc55 0 _ rfl; (try simp only [show (k64).sz = 3 from rfl, Nat.mul_one, Nat.add_zero] at hx55_0); have hf55_0 := hfr55 0; (try simp only [show (k64).sz = 3 from rfl, Nat.mul_one, Nat.add_zero] at hf55_0); clear hcl55 hcc55 hfr55; (try clear hM55)) | ((with_reducible refine gate_store (t := 2) (p := 85) rfl ?_); refine store_event (t := 2) (p := 85) (v := ?vo_w56) (w1 := (w54.setCell ⟨go47, (t293 : Int).toNat * 3, none⟩ (.int .i64 t303))) ?hg ?ho ?hn ?hr ?_; (case ho => rfl); (case hg => rfl); (case hn => rfl); (case hr => first | (go_simp; done) | (go_simp; rfl)); intro w56 hw; have hg : w54.grownBy w56 (some go47) := (by rw [hw]; exact HP55.2); have hp_ : Kd.R k64 64 w56 w.heap.size (fun _ => True) (.slice (some ⟨go47, 0, none⟩) x6_2.length co48) y306 := (by rw [hw, Ny306.out]; exact HP55.1); clear HP55; have n0_ := aa (Kd.R_over' (v := (.slice (some ⟨go47, 0, none⟩) x6_2.length co48)) (by (with_reducible repeat (first | apply ab | apply ac | apply af)); exact HO_5.out) (Kd.R_typed HO_6.out) (by decide) hg); have n1_ := aa (hp_); have n2_ := aa (IsS102.grown (by repeat (first | (with_reducible first | exact HI0.out | apply IsS102.alloc | apply IsS102.drewN | apply IsS102.drew | apply IsS102.set_1 | apply IsS102.set_2) | exact HI0.out)) hg (IsS102.own_ne HI0.out HO_6.out (by decide))); have n3_ := aa (Kd.R_over' (v := (.slice (some ⟨go47, 0, none⟩) x6_2.length co48)) (by (with_reducible repeat (first | apply ab | apply ac | apply af)); exact HO302.out) (Kd.R_typed HO_6.out) (by decide) hg); have n4_ := aa ((by rw [hw]; exact ao (HB.out) (Nat.le_trans HL.out GB47.out) : Below w0.heap.size w0 w56)); have n5_ := aa (KeepBut.trans (by repeat (first | (with_reducible first | exact HK.out | apply KeepBut.set_ | apply au | apply ax | apply av) | exact HK.out)) (KeepBut.of_grown hg g) (Kd.R_base2 HO_6.out)); clear HO_5; clear HO_6; clear HI0; clear HO302; clear HB; clear HK; have HO_5 := n0_; have HO_6 := n1_; have HI0 := n2_; have HO302 := n3_; have HB := n4_; have HK := n5_; clear n0_ n1_ n2_ n3_ n4_ n5_; clear hg hw hp_))
            go_ret
            exact ⟨_, by first | rfl | (simp [errW_none, errW_some] <;> rfl) | (simp [*, errW_none, errW_some] <;> rfl), by (with_reducible repeat (first | apply ab | apply ac | apply af)); exact HO_6.out, by repeat (first | (with_reducible first | exact HI0.out | apply IsS102.alloc | apply IsS102.drewN | apply IsS102.drew | apply IsS102.set_1 | apply IsS102.set_2) | exact HI0.out), by repeat (first | (with_reducible first | exact HB.out | apply ah | apply ae | apply ag | refine ao ?_ (IsS102.ge HI0.out)) | exact HB.out), by repeat (first | (with_reducible first | exact HK.out | apply KeepBut.set_ | apply au | apply ax | apply av) | exact HK.out)⟩
           ·rw [if_neg c45] at H
            have c45b0 : (t297 == 0) = false := beq_eq_false_iff_ne.mpr c45
            have c45b1 : (t297 != 0) = true := bne_iff_ne.mpr c45
            by_cases c57 : t297 = 1
            ·rw [if_pos c57] at H
             have c57b0 : (t297 == 1) = true := beq_iff_eq.mpr c57
             have c57b1 : (t297 != 1) = false := bne_eq_false_iff_eq.mpr c57
             clear c57
             obtain ⟨y307, hy307⟩ : ∃ y_ : List Int, y_ = (([(-1), 0, 1, 2, 3, 4] : List Int)) := ⟨_, rfl⟩
             replace H : ((spec_l00Src_among.f s0_0 t298 t299 y307).bind fun bt310 => (some ((x6_2.set (t293 : Int).toNat (⟨(rd_T64 x6_2 t293).f0, bt310.1, (rd_T64 x6_2 t293).f2⟩ : S64)), bt310.2.1, bt310.2.2))) = some (r1, r2, r3) := by first | (rw [hy307]; with_reducible exact H) | (have H2_ := (Option.bind_some _ _).symm.trans H; rw [hy307]; with_reducible exact H2_) | (have H2_ := (Option.bind_some _ _).symm.trans H; with_reducible exact H2_) | with_reducible exact H | (rw [hy307]; exact H) | exact H
             have Ny307 := aa hy307
             clear hy307
             replace H := bm.mp H
             obtain ⟨⟨t310, t311, t312⟩, A580, H⟩ := H
             (try dsimp only at H)
             have A58 := aa A580
             clear A580
             obtain ⟨y313, hy313⟩ : ∃ y_ : List (S64), y_ = (x6_2.set (t293 : Int).toNat (⟨(rd_T64 x6_2 t293).f0, t310, (rd_T64 x6_2 t293).f2⟩ : S64)) := ⟨_, rfl⟩
             replace H : (some (y313, t311, t312)) = some (r1, r2, r3) := by first | (rw [hy313]; with_reducible exact H) | (have H2_ := (Option.bind_some _ _).symm.trans H; rw [hy313]; with_reducible exact H2_) | (have H2_ := (Option.bind_some _ _).symm.trans H; with_reducible exact H2_) | with_reducible exact H | (rw [hy313]; exact H) | exact H
             have Ny313 := aa hy313
             clear hy313
             simp only [Option.some.injEq, Prod.mk.injEq] at H
             obtain ⟨rfl, rfl, rfl⟩ := H
             obtain ⟨Ao60, co60, eo60⟩ := ap HO_6.out
             subst eo60
             go_wp2_with (first | ((with_reducible refine gate_callee (f := 88) rfl ?_); refine goesL_ (some 69) rfl rfl Try.func88 (by kernel_rfl) rfl #[.pointer (some ⟨g, 0, none⟩), .int .i64 (x6_2.length : Int)] rfl (by (try simp only [List.map_toArray, List.map_cons, List.map_nil]); first | done | rfl | (simp only [List.length_drop, List.length_take]; rfl)) ?_; (with_reducible refine (spec_l00Src_pick.calls g s0_0 x1001_2 x1002_2 (x6_2.length : Int) t293 t294 t295 w0 _ ?side1 ?side2 A41.out).mono ?_); (case side1 => repeat (first | (with_reducible first | exact HI0.out | apply IsS102.alloc | apply IsS102.drewN | apply IsS102.drew | apply IsS102.set_1 | apply IsS102.set_2) | exact HI0.out)); (case side2 => repeat (first | (with_reducible first | exact HB.out | apply ah | apply ae | apply ag | refine ao ?_ (IsS102.ge HI0.out)) | exact HB.out)); rintro e w61 ⟨rfl, hi, hb, hk⟩; refine ⟨_, rfl, ?_⟩; have n0_ := aa (an (bf (IsS102.apart (show IsS102 w0 _ g s0_0 x1001_2 x1002_2 from by repeat (first | (with_reducible first | exact HI0.out | apply IsS102.alloc | apply IsS102.drewN | apply IsS102.drew | apply IsS102.set_1 | apply IsS102.set_2) | exact HI0.out)) (by (with_reducible repeat (first | apply ab | apply ac | apply af)); exact HO_5.out) (by decide)) hk (fun _ h => h.2)) (fun _ h => h.1)); have n1_ := aa (an (bf (IsS102.apart (show IsS102 w0 _ g s0_0 x1001_2 x1002_2 from by repeat (first | (with_reducible first | exact HI0.out | apply IsS102.alloc | apply IsS102.drewN | apply IsS102.drew | apply IsS102.set_1 | apply IsS102.set_2) | exact HI0.out)) (by (with_reducible repeat (first | apply ab | apply ac | apply af)); exact HO_6.out) (by decide)) hk (fun _ h => h.2)) (fun _ h => h.1)); have n2_ := aa (KeepBut.trans (by repeat (first | (with_reducible first | exact HK.out | apply KeepBut.set_ | apply au | apply ax | apply av) | exact HK.out)) hk (.inl rfl)); have n3_ := aa (hb); have n4_ := aa (hi); clear HO_5; clear HO_6; clear HK; clear HB; clear HI0; have HO_5 := n0_; have HO_6 := n1_; have HK := n2_; have HB := n3_; have HI0 := n4_; clear n0_ n1_ n2_ n3_ n4_; (try clear hb); (try clear hb2); (try clear hk); (try clear hi); have p296 : 0 ≤ (t293 : Int) := of_decide_eq_true (by first | (with_reducible assumption) | assumption); have q296 : t293 < (x6_2.length : Int) := of_decide_eq_true (by first | (with_reducible assumption) | assumption); obtain ⟨ad296, e296, hx296_0, hx296_1, hx296_2⟩ := at_T64 (ai HO_6.out).2.2 t293 p296 q296; cases e296; replace p296 := eq_true p296; replace q296 := eq_true q296) | ((with_reducible refine gate_callee (f := 88) rfl ?_); refine goesL_ (some 72) rfl rfl Try.func88 (by kernel_rfl) rfl #[.pointer (some ⟨g, 0, none⟩), .int .i64 12] rfl (by (try simp only [List.map_toArray, List.map_cons, List.map_nil]); first | done | rfl | (simp only [List.length_drop, List.length_take]; rfl)) ?_; (with_reducible refine (spec_l00Src_pick.calls g s0_0 t294 t295 12 t297 t298 t299 w0 _ ?side1 ?side2 A44.out).mono ?_); (case side1 => repeat (first | (with_reducible first | exact HI0.out | apply IsS102.alloc | apply IsS102.drewN | apply IsS102.drew | apply IsS102.set_1 | apply IsS102.set_2) | exact HI0.out)); (case side2 => repeat (first | (with_reducible first | exact HB.out | apply ah | apply ae | apply ag | refine ao ?_ (IsS102.ge HI0.out)) | exact HB.out)); rintro e w62 ⟨rfl, hi, hb, hk⟩; refine ⟨_, rfl, ?_⟩; have n0_ := aa (an (bf (IsS102.apart (show IsS102 w0 _ g s0_0 t294 t295 from by repeat (first | (with_reducible first | exact HI0.out | apply IsS102.alloc | apply IsS102.drewN | apply IsS102.drew | apply IsS102.set_1 | apply IsS102.set_2) | exact HI0.out)) (by (with_reducible repeat (first | apply ab | apply ac | apply af)); exact HO_5.out) (by decide)) hk (fun _ h => h.2)) (fun _ h => h.1)); have n1_ := aa (an (bf (IsS102.apart (show IsS102 w0 _ g s0_0 t294 t295 from by repeat (first | (with_reducible first | exact HI0.out | apply IsS102.alloc | apply IsS102.drewN | apply IsS102.drew | apply IsS102.set_1 | apply IsS102.set_2) | exact HI0.out)) (by (with_reducible repeat (first | apply ab | apply ac | apply af)); exact HO_6.out) (by decide)) hk (fun _ h => h.2)) (fun _ h => h.1)); have n2_ := aa (KeepBut.trans (by repeat (first | (with_reducible first | exact HK.out | apply KeepBut.set_ | apply au | apply ax | apply av) | exact HK.out)) hk (.inl rfl)); have n3_ := aa (hb); have n4_ := aa (hi); clear HO_5; clear HO_6; clear HK; clear HB; clear HI0; have HO_5 := n0_; have HO_6 := n1_; have HK := n2_; have HB := n3_; have HI0 := n4_; clear n0_ n1_ n2_ n3_ n4_; (try clear hb); (try clear hb2); (try clear hk); (try clear hi)) | ((with_reducible refine gate_dst (N := 90) rfl ?_); (try (refine gate_guard (by rfl) ?_; dsimp only)); refine Kd.R_lit (Kd.int .i64) _ 2 ?hg (N := 90) ?hd (xs := ([(-1), 0, 1, 2, 3, 4] : List Int)) (inner := [.int .i64 (-1), .int .i64 0, .int .i64 1, .int .i64 2, .int .i64 3, .int .i64 4]) (ok := fun _ => True) (okp := fun _ => True) ?hr ?hp (fun _ hk => hk) trivial (Below.refl _ _) (Nat.le_refl _) (by simp) ?_; (case hd => rfl); (case hg => rfl); (case hr => first | (go_simp; done) | (go_simp; rfl)); (case hp => exact (Reps.one (show Kd.M (Kd.int .i64) _ _ _ (-1) [.int .i64 (-1)] from rfl) (Reps.one (show Kd.M (Kd.int .i64) _ _ _ 0 [.int .i64 0] from rfl) (Reps.one (show Kd.M (Kd.int .i64) _ _ _ 1 [.int .i64 1] from rfl) (Reps.one (show Kd.M (Kd.int .i64) _ _ _ 2 [.int .i64 2] from rfl) (Reps.one (show Kd.M (Kd.int .i64) _ _ _ 3 [.int .i64 3] from rfl) (Reps.one (show Kd.M (Kd.int .i64) _ _ _ 4 [.int .i64 4] from rfl) (Reps.none _ _)))))))); intro v308 w63 ho64 hb hg_ hnew_; clear hg_ hnew_; (first | rw [← Ny307.out] at ho64 | (simp only [Int.reduceToNat] at ho64; rw [← Ny307.out] at ho64)); have n0_ := aa (aw (by (with_reducible repeat (first | apply ab | apply ac | apply af)); exact HO_5.out) (az ho64) hb); have n1_ := aa (aq (by (with_reducible repeat (first | apply ab | apply ac | apply af)); exact HO_6.out) hb); have n2_ := aa (bd (ba ho64 (bc (by (with_reducible repeat (first | apply ab | apply ac | apply af)); exact HO_5.out))) (keep_size (w := w) (g := g) (row := none) (by repeat (first | (with_reducible first | exact HK.out | apply KeepBut.set_ | apply au | apply ax | apply av) | exact HK.out)))); have n3_ := aa (IsS102.below (by repeat (first | (with_reducible first | exact HI0.out | apply IsS102.alloc | apply IsS102.drewN | apply IsS102.drew | apply IsS102.set_1 | apply IsS102.set_2) | exact HI0.out)) hb); have n4_ := aa (KeepBut.trans (by repeat (first | (with_reducible first | exact HK.out | apply KeepBut.set_ | apply au | apply ax | apply av) | exact HK.out)) (KeepBut.of_below hb g none) (.inl rfl)); have n5_ := aa (ay (by repeat (first | (with_reducible first | exact HB.out | apply ah | apply ae | apply ag | refine ao ?_ (IsS102.ge HI0.out)) | exact HB.out)) hb); clear HO_5; clear HO_6; clear HI0; clear HK; clear HB; have HO_5 := n0_; have HO_6 := n1_; have HO309 := n2_; have HI0 := n3_; have HK := n4_; have HB := n5_; clear n0_ n1_ n2_ n3_ n4_ n5_; clear hb ho64; obtain ⟨Ao65, co65, eo65⟩ := ap HO309.out; subst eo65) | ((with_reducible refine gate_callee (f := 112) rfl ?_); refine goesL_ (some 91) rfl rfl Try.func112 (by kernel_rfl) rfl #[.pointer (some ⟨g, 0, none⟩), .slice Ao65 y307.length co65] rfl (by (try simp only [List.map_toArray, List.map_cons, List.map_nil]); first | done | rfl | (simp only [List.length_drop, List.length_take]; rfl)) ?_; (with_reducible refine (spec_l00Src_among.calls g s0_0 t298 t299 _ _ y307 t310 t311 t312 w0 _ ?side1 ?side2 ?side3 ?side4 ?side5 A58.out).mono ?_); (case side1 => repeat (first | (with_reducible first | exact HI0.out | apply IsS102.alloc | apply IsS102.drewN | apply IsS102.drew | apply IsS102.set_1 | apply IsS102.set_2) | exact HI0.out)); (case side2 => repeat (first | (with_reducible first | exact HB.out | apply ah | apply ae | apply ag | refine ao ?_ (IsS102.ge HI0.out)) | exact HB.out)); (case side3 => repeat (first | exact (ai HO309.out).2.2 | (with_reducible refine ak ?_ _) | (with_reducible refine al ?_ _) | (with_reducible refine am ?_))); (case side4 => exact (ai HO309.out).2.1); (case side5 => exact far_slice (IsS102.own_ne HI0.out HO309.out (by decide))); rintro e w66 ⟨rfl, hi, hb, hk⟩; refine ⟨_, rfl, ?_⟩; have n0_ := aa (an (bf (IsS102.apart (show IsS102 w0 _ g s0_0 t298 t299 from by repeat (first | (with_reducible first | exact HI0.out | apply IsS102.alloc | apply IsS102.drewN | apply IsS102.drew | apply IsS102.set_1 | apply IsS102.set_2) | exact HI0.out)) (by (with_reducible repeat (first | apply ab | apply ac | apply af)); exact HO_5.out) (by decide)) hk (fun _ h => h.2)) (fun _ h => h.1)); have n1_ := aa (an (bf (IsS102.apart (show IsS102 w0 _ g s0_0 t298 t299 from by repeat (first | (with_reducible first | exact HI0.out | apply IsS102.alloc | apply IsS102.drewN | apply IsS102.drew | apply IsS102.set_1 | apply IsS102.set_2) | exact HI0.out)) (by (with_reducible repeat (first | apply ab | apply ac | apply af)); exact HO_6.out) (by decide)) hk (fun _ h => h.2)) (fun _ h => h.1)); have n2_ := aa (an (bf (IsS102.apart (show IsS102 w0 _ g s0_0 t298 t299 from by repeat (first | (with_reducible first | exact HI0.out | apply IsS102.alloc | apply IsS102.drewN | apply IsS102.drew | apply IsS102.set_1 | apply IsS102.set_2) | exact HI0.out)) (by (with_reducible repeat (first | apply ab | apply ac | apply af)); exact HO309.out) (by decide)) hk (fun _ h => h.2)) (fun _ h => h.1)); have n3_ := aa (KeepBut.trans (by repeat (first | (with_reducible first | exact HK.out | apply KeepBut.set_ | apply au | apply ax | apply av) | exact HK.out)) hk (.inl rfl)); have n4_ := aa (hb); have n5_ := aa (hi); clear HO_5; clear HO_6; clear HO309; clear HK; clear HB; clear HI0; have HO_5 := n0_; have HO_6 := n1_; have HO309 := n2_; have HK := n3_; have HB := n4_; have HI0 := n5_; clear n0_ n1_ n2_ n3_ n4_ n5_; (try clear hb); (try clear hb2); (try clear hk); (try clear hi); have p59 : 0 ≤ (t293 : Int) := of_decide_eq_true (by first | (with_reducible assumption) | assumption); have q59 : (t293 : Int) < ((x6_2.length : Int) : Int) := of_decide_eq_true (by first | (with_reducible assumption) | assumption); obtain ⟨go59, co59, eo59, gb59, gl59, cl59, HG59⟩ := Kd.R_form HO_6.out (by omega); (first | cases eo59 | (injection eo59 with ea_ en_ ec_; (first | subst ea_ | (injection ea_ with ea_; subst ea_)); subst ec_; clear en_)); have GB59 := aa gb59; have GG59 := aa HG59; clear gb59 gl59 HG59; (first | simp only [add_plain] at hx296_0 | skip); (first | simp only [add_plain] at hx296_1 | skip); (first | simp only [add_plain] at hx296_2 | skip); obtain ⟨ce59, hcl59, hM59, hcc59, hfr59⟩ := Kd.R_elem HO_6.out z64 (t293 : Int) p59 q59; obtain rfl := k64_openM hM59; have hx59_0 : w66.cell? ⟨go59, (t293 : Int).toNat * 3, none⟩ = some (.int .i64 ((rd_T64 x6_2 t293).f0)) := hcc59 0 _ rfl; have hx59_1 : w66.cell? ⟨go59, (t293 : Int).toNat * 3 + 1, none⟩ = some (.int .i64 ((rd_T64 x6_2 t293).f1)) := hcc59 1 _ rfl; have hx59_2 : w66.cell? ⟨go59, (t293 : Int).toNat * 3 + 2, none⟩ = some (.int .i64 ((rd_T64 x6_2 t293).f2)) := hcc59 2 _ rfl; have hf59_0 : w66.frozen? ⟨go59, (t293 : Int).toNat * 3, none⟩ = false := hfr59 0; have hf59_1 : w66.frozen? ⟨go59, (t293 : Int).toNat * 3 + 1, none⟩ = false := hfr59 1; have hf59_2 : w66.frozen? ⟨go59, (t293 : Int).toNat * 3 + 2, none⟩ = false := hfr59 2; clear hcl59 hcc59 hfr59; (try clear hM59); replace p59 := eq_true p59; replace q59 := eq_true q59; have HX67 := aa (show Kd.R k64 64 w66 w.heap.size (fun _ => True) (.slice (some ⟨go59, 0, none⟩) x6_2.length co60) x6_2 from (by (with_reducible repeat (first | apply ab | apply ac | apply af)); exact HO_6.out)); obtain ⟨ce67, hcl67, hM67, hcc67, hfr67⟩ := Kd.R_elem HX67.out z64 (t293 : Int) (of_decide_eq_true (by first | (with_reducible assumption) | assumption)) (by have h_ : (t293 : Int) < ((x6_2.length : Int) : Int) := of_decide_eq_true (by first | (with_reducible assumption) | assumption); first | exact h_ | (have e_ := (ai HO_6.out).1; omega) | simpa using h_); obtain rfl := k64_openM hM67; have HP67 := Kd.R_seg HX67.out (t293 : Int) (of_decide_eq_true (by first | (with_reducible assumption) | assumption)) (by have h_ : (t293 : Int) < ((x6_2.length : Int) : Int) := of_decide_eq_true (by first | (with_reducible assumption) | assumption); first | exact h_ | (have e_ := (ai HO_6.out).1; omega) | simpa using h_) (seg := [.int .i64 t310]) (j := 1) hcl67 hcc67 (show 2 ≤ 3 from by decide) (x' := (⟨(rd_T64 x6_2 t293).f0, t310, (rd_T64 x6_2 t293).f2⟩ : S64)) (k64_mkM _ _ _ (⟨(rd_T64 x6_2 t293).f0, t310, (rd_T64 x6_2 t293).f2⟩ : S64) ) (fun _ hk => hk); have hx67_1 := hcc67 1 _ rfl; (try simp only [show (k64).sz = 3 from rfl, Nat.mul_one, Nat.add_zero] at hx67_1); have hf67_1 := hfr67 1; (try simp only [show (k64).sz = 3 from rfl, Nat.mul_one, Nat.add_zero] at hf67_1); clear hcl67 hcc67 hfr67; (try clear hM67)) | ((with_reducible refine gate_store (t := 2) (p := 93) rfl ?_); refine store_event (t := 2) (p := 93) (v := ?vo_w68) (w1 := (w66.setCell ⟨go59, (t293 : Int).toNat * 3 + 1, none⟩ (.int .i64 t310))) ?hg ?ho ?hn ?hr ?_; (case ho => rfl); (case hg => rfl); (case hn => rfl); (case hr => first | (go_simp; done) | (go_simp; rfl)); intro w68 hw; have hg : w66.grownBy w68 (some go59) := (by rw [hw]; exact HP67.2); have hp_ : Kd.R k64 64 w68 w.heap.size (fun _ => True) (.slice (some ⟨go59, 0, none⟩) x6_2.length co60) y313 := (by rw [hw, Ny313.out]; exact HP67.1); clear HP67; have n0_ := aa (Kd.R_over' (v := (.slice (some ⟨go59, 0, none⟩) x6_2.length co60)) (by (with_reducible repeat (first | apply ab | apply ac | apply af)); exact HO_5.out) (Kd.R_typed HO_6.out) (by decide) hg); have n1_ := aa (hp_); have n2_ := aa (IsS102.grown (by repeat (first | (with_reducible first | exact HI0.out | apply IsS102.alloc | apply IsS102.drewN | apply IsS102.drew | apply IsS102.set_1 | apply IsS102.set_2) | exact HI0.out)) hg (IsS102.own_ne HI0.out HO_6.out (by decide))); have n3_ := aa (Kd.R_over' (v := (.slice (some ⟨go59, 0, none⟩) x6_2.length co60)) (by (with_reducible repeat (first | apply ab | apply ac | apply af)); exact HO309.out) (Kd.R_typed HO_6.out) (by decide) hg); have n4_ := aa ((by rw [hw]; exact ao (HB.out) (Nat.le_trans HL.out GB59.out) : Below w0.heap.size w0 w68)); have n5_ := aa (KeepBut.trans (by repeat (first | (with_reducible first | exact HK.out | apply KeepBut.set_ | apply au | apply ax | apply av) | exact HK.out)) (KeepBut.of_grown hg g) (Kd.R_base2 HO_6.out)); clear HO_5; clear HO_6; clear HI0; clear HO309; clear HB; clear HK; have HO_5 := n0_; have HO_6 := n1_; have HI0 := n2_; have HO309 := n3_; have HB := n4_; have HK := n5_; clear n0_ n1_ n2_ n3_ n4_ n5_; clear hg hw hp_))
             go_ret
             exact ⟨_, by first | rfl | (simp [errW_none, errW_some] <;> rfl) | (simp [*, errW_none, errW_some] <;> rfl), by (with_reducible repeat (first | apply ab | apply ac | apply af)); exact HO_6.out, by repeat (first | (with_reducible first | exact HI0.out | apply IsS102.alloc | apply IsS102.drewN | apply IsS102.drew | apply IsS102.set_1 | apply IsS102.set_2) | exact HI0.out), by repeat (first | (with_reducible first | exact HB.out | apply ah | apply ae | apply ag | refine ao ?_ (IsS102.ge HI0.out)) | exact HB.out), by repeat (first | (with_reducible first | exact HK.out | apply KeepBut.set_ | apply au | apply ax | apply av) | exact HK.out)⟩
            ·rw [if_neg c57] at H
             have c57b0 : (t297 == 1) = false := beq_eq_false_iff_ne.mpr c57
             have c57b1 : (t297 != 1) = true := bne_iff_ne.mpr c57
             simp only [Option.some.injEq, Prod.mk.injEq] at H
             obtain ⟨rfl, rfl, rfl⟩ := H
             obtain ⟨Ao69, co69, eo69⟩ := ap HO_6.out
             subst eo69
             go_wp2_with (first | ((with_reducible refine gate_callee (f := 88) rfl ?_); refine goesL_ (some 69) rfl rfl Try.func88 (by kernel_rfl) rfl #[.pointer (some ⟨g, 0, none⟩), .int .i64 (x6_2.length : Int)] rfl (by (try simp only [List.map_toArray, List.map_cons, List.map_nil]); first | done | rfl | (simp only [List.length_drop, List.length_take]; rfl)) ?_; (with_reducible refine (spec_l00Src_pick.calls g s0_0 x1001_2 x1002_2 (x6_2.length : Int) t293 t294 t295 w0 _ ?side1 ?side2 A41.out).mono ?_); (case side1 => repeat (first | (with_reducible first | exact HI0.out | apply IsS102.alloc | apply IsS102.drewN | apply IsS102.drew | apply IsS102.set_1 | apply IsS102.set_2) | exact HI0.out)); (case side2 => repeat (first | (with_reducible first | exact HB.out | apply ah | apply ae | apply ag | refine ao ?_ (IsS102.ge HI0.out)) | exact HB.out)); rintro e w70 ⟨rfl, hi, hb, hk⟩; refine ⟨_, rfl, ?_⟩; have n0_ := aa (an (bf (IsS102.apart (show IsS102 w0 _ g s0_0 x1001_2 x1002_2 from by repeat (first | (with_reducible first | exact HI0.out | apply IsS102.alloc | apply IsS102.drewN | apply IsS102.drew | apply IsS102.set_1 | apply IsS102.set_2) | exact HI0.out)) (by (with_reducible repeat (first | apply ab | apply ac | apply af)); exact HO_5.out) (by decide)) hk (fun _ h => h.2)) (fun _ h => h.1)); have n1_ := aa (an (bf (IsS102.apart (show IsS102 w0 _ g s0_0 x1001_2 x1002_2 from by repeat (first | (with_reducible first | exact HI0.out | apply IsS102.alloc | apply IsS102.drewN | apply IsS102.drew | apply IsS102.set_1 | apply IsS102.set_2) | exact HI0.out)) (by (with_reducible repeat (first | apply ab | apply ac | apply af)); exact HO_6.out) (by decide)) hk (fun _ h => h.2)) (fun _ h => h.1)); have n2_ := aa (KeepBut.trans (by repeat (first | (with_reducible first | exact HK.out | apply KeepBut.set_ | apply au | apply ax | apply av) | exact HK.out)) hk (.inl rfl)); have n3_ := aa (hb); have n4_ := aa (hi); clear HO_5; clear HO_6; clear HK; clear HB; clear HI0; have HO_5 := n0_; have HO_6 := n1_; have HK := n2_; have HB := n3_; have HI0 := n4_; clear n0_ n1_ n2_ n3_ n4_; (try clear hb); (try clear hb2); (try clear hk); (try clear hi); have p296 : 0 ≤ (t293 : Int) := of_decide_eq_true (by first | (with_reducible assumption) | assumption); have q296 : t293 < (x6_2.length : Int) := of_decide_eq_true (by first | (with_reducible assumption) | assumption); obtain ⟨ad296, e296, hx296_0, hx296_1, hx296_2⟩ := at_T64 (ai HO_6.out).2.2 t293 p296 q296; cases e296; replace p296 := eq_true p296; replace q296 := eq_true q296) | ((with_reducible refine gate_callee (f := 88) rfl ?_); refine goesL_ (some 72) rfl rfl Try.func88 (by kernel_rfl) rfl #[.pointer (some ⟨g, 0, none⟩), .int .i64 12] rfl (by (try simp only [List.map_toArray, List.map_cons, List.map_nil]); first | done | rfl | (simp only [List.length_drop, List.length_take]; rfl)) ?_; (with_reducible refine (spec_l00Src_pick.calls g s0_0 t294 t295 12 t297 t298 t299 w0 _ ?side1 ?side2 A44.out).mono ?_); (case side1 => repeat (first | (with_reducible first | exact HI0.out | apply IsS102.alloc | apply IsS102.drewN | apply IsS102.drew | apply IsS102.set_1 | apply IsS102.set_2) | exact HI0.out)); (case side2 => repeat (first | (with_reducible first | exact HB.out | apply ah | apply ae | apply ag | refine ao ?_ (IsS102.ge HI0.out)) | exact HB.out)); rintro e w71 ⟨rfl, hi, hb, hk⟩; refine ⟨_, rfl, ?_⟩; have n0_ := aa (an (bf (IsS102.apart (show IsS102 w0 _ g s0_0 t294 t295 from by repeat (first | (with_reducible first | exact HI0.out | apply IsS102.alloc | apply IsS102.drewN | apply IsS102.drew | apply IsS102.set_1 | apply IsS102.set_2) | exact HI0.out)) (by (with_reducible repeat (first | apply ab | apply ac | apply af)); exact HO_5.out) (by decide)) hk (fun _ h => h.2)) (fun _ h => h.1)); have n1_ := aa (an (bf (IsS102.apart (show IsS102 w0 _ g s0_0 t294 t295 from by repeat (first | (with_reducible first | exact HI0.out | apply IsS102.alloc | apply IsS102.drewN | apply IsS102.drew | apply IsS102.set_1 | apply IsS102.set_2) | exact HI0.out)) (by (with_reducible repeat (first | apply ab | apply ac | apply af)); exact HO_6.out) (by decide)) hk (fun _ h => h.2)) (fun _ h => h.1)); have n2_ := aa (KeepBut.trans (by repeat (first | (with_reducible first | exact HK.out | apply KeepBut.set_ | apply au | apply ax | apply av) | exact HK.out)) hk (.inl rfl)); have n3_ := aa (hb); have n4_ := aa (hi); clear HO_5; clear HO_6; clear HK; clear HB; clear HI0; have HO_5 := n0_; have HO_6 := n1_; have HK := n2_; have HB := n3_; have HI0 := n4_; clear n0_ n1_ n2_ n3_ n4_; (try clear hb); (try clear hb2); (try clear hk); (try clear hi)))
             go_ret
             exact ⟨_, by first | rfl | (simp [errW_none, errW_some] <;> rfl) | (simp [*, errW_none, errW_some] <;> rfl), by (with_reducible repeat (first | apply ab | apply ac | apply af)); exact HO_6.out, by repeat (first | (with_reducible first | exact HI0.out | apply IsS102.alloc | apply IsS102.drewN | apply IsS102.drew | apply IsS102.set_1 | apply IsS102.set_2) | exact HI0.out), by repeat (first | (with_reducible first | exact HB.out | apply ah | apply ae | apply ag | refine ao ?_ (IsS102.ge HI0.out)) | exact HB.out), by repeat (first | (with_reducible first | exact HK.out | apply KeepBut.set_ | apply au | apply ax | apply av) | exact HK.out)⟩
          ·rw [if_neg c43] at H
           exact absurd H (by simp)
         ·rw [if_neg c42] at H
          exact absurd H (by simp)
        ·rw [if_neg c40] at H
         have c40b0 : decide (0 < (x6_2.length : Int)) = false := decide_eq_false c40
         have c40b1 : decide (0 < x6_2.length) = false := decide_eq_false (by omega)
         clear c40
         simp only [Option.some.injEq, Prod.mk.injEq] at H
         obtain ⟨rfl, rfl, rfl⟩ := H
         obtain ⟨Ao72, co72, eo72⟩ := ap HO_6.out
         subst eo72
         go_wp2
         go_ret
         exact ⟨_, by first | rfl | (simp [errW_none, errW_some] <;> rfl) | (simp [*, errW_none, errW_some] <;> rfl), by (with_reducible repeat (first | apply ab | apply ac | apply af)); exact HO_6.out, by repeat (first | (with_reducible first | exact HI0.out | apply IsS102.alloc | apply IsS102.drewN | apply IsS102.drew | apply IsS102.set_1 | apply IsS102.set_2) | exact HI0.out), by repeat (first | (with_reducible first | exact HB.out | apply ah | apply ae | apply ag | refine ao ?_ (IsS102.ge HI0.out)) | exact HB.out), by repeat (first | (with_reducible first | exact HK.out | apply KeepBut.set_ | apply au | apply ax | apply av) | exact HK.out)⟩

/-! ### spec_l22Both: function 86 -/
def spec_l22Both.f (k : Nat) (l0 : List Int) : Option (List Int × (List (S64))) := (spec_l00From.f l0).bind fun bt314 => ((spec_l22Draw.f k bt314.1 bt314.2.1 bt314.2.2).bind fun bt318 => ((spec_l22DrawSteps.f k bt314.1 bt318.2.1 bt318.2.2 bt318.1).bind fun bt323 => (some (bt318.1, bt323.1))))
theorem spec_l22Both.mono : ∀ a0 k, LeO (spec_l22Both.f k a0) (spec_l22Both.f (k + 1) a0) := by
 intro a0 k
 unfold spec_l22Both.f
 repeat' first
   | (with_reducible exact spec_l22Draw.mono _ _ _ _)
   | (with_reducible exact spec_l22DrawSteps.mono _ _ _ _ _)
   | (with_reducible exact LeO.refl _)
   | (with_reducible exact LeO.none _)
   | (with_reducible refine LeO.ite ?_ ?_)
   | (with_reducible refine LeO.bind ?_ (fun _ => ?_))
   | exact spec_l22Draw.mono _ _ _ _
   | exact spec_l22DrawSteps.mono _ _ _ _ _
   | exact LeO.none _
   | refine LeO.ite ?_ ?_
   | refine LeO.bind ?_ (fun _ => ?_)
set_option maxHeartbeats 8000000 in
set_option maxRecDepth 100000 in
theorem spec_l22Both.calls (k : Nat) (A0 : Option Addr) (c0 : Nat) (l0 : List Int) (r1 : List Int) (r2 : List (S64)) (w : World) (hr0 : Kd.C (Kd.int .u8) w A0 l0.length l0) (hc0 : l0.length ≤ c0) (h : spec_l22Both.f k l0 = some (r1, r2)) :
  Calls Try.prog 86 #[.slice A0 l0.length c0] w fun e w' => ∃ v0_ v1_ : Value, e = .returned (.tuple #[v0_, v1_]) ∧ Kd.R (Kd.int .i64) 2 w' w.heap.size (fun _ => True) v0_ r1 ∧ Kd.R k64 64 w' w.heap.size (fun _ => True) v1_ r2 ∧ Below w.heap.size w w' := by
 have HR0 := aa hr0
 have HC0 := aa hc0
 clear hr0 hc0
 have HB := aa (Below.refl w.heap.size w)
 have H : ((spec_l00From.f l0).bind fun bt314 => ((spec_l22Draw.f k bt314.1 bt314.2.1 bt314.2.2).bind fun bt318 => ((spec_l22DrawSteps.f k bt314.1 bt318.2.1 bt318.2.2 bt318.1).bind fun bt323 => (some (bt318.1, bt323.1))))) = some (r1, r2) := h
 clear h
 replace H := bm.mp H
 obtain ⟨⟨t314, t315, t316⟩, A20, H⟩ := H
 (try dsimp only at H)
 have A2 := aa A20
 clear A20
 replace H := bm.mp H
 obtain ⟨⟨t318, t321, t322⟩, A30, H⟩ := H
 (try dsimp only at H)
 have A3 := aa A30
 clear A30
 replace H := bm.mp H
 obtain ⟨⟨t323, t326, t327⟩, A40, H⟩ := H
 replace H : (some (t318, t323)) = some (r1, r2) := H
 have A4 := aa A40
 clear A40
 simp only [Option.some.injEq, Prod.mk.injEq] at H
 obtain ⟨rfl, rfl⟩ := H
 go_enter Try.func86, Try.ntmps86
 go_wp2_with (first | ((with_reducible refine gate_callee (f := 85) rfl ?_); refine goesL_ (some 7) rfl rfl Try.func85 (by kernel_rfl) rfl #[.slice A0 l0.length c0] rfl (by (try simp only [List.map_toArray, List.map_cons, List.map_nil]); first | done | rfl | (simp only [List.length_drop, List.length_take]; rfl)) ?_; (with_reducible refine (spec_l00From.calls _ _ l0 t314 t315 t316 w _ ?side1 ?side2 ?side3 A2.out).mono ?_); (case side1 => repeat (first | (with_reducible first | exact HB.out | apply ah | apply ae | apply ag) | exact HB.out)); (case side2 => exact HR0.out); (case side3 => exact HC0.out); rintro e w5 ⟨g317, rfl, hi, hb, hb2⟩; refine ⟨_, rfl, ?_⟩; have n0_ := aa (hb); have n1_ := aa (hi); clear HB; have HB := n0_; have HI317 := n1_; clear n0_ n1_; (try clear hb); (try clear hb2); (try clear hk); (try clear hi)) | ((with_reducible refine gate_callee (f := 84) rfl ?_); refine goesL_ (some 9) rfl rfl Try.func84 (by kernel_rfl) rfl #[.pointer (some ⟨g317, 0, none⟩)] rfl (by (try simp only [List.map_toArray, List.map_cons, List.map_nil]); first | done | rfl | (simp only [List.length_drop, List.length_take]; rfl)) ?_; (with_reducible refine (spec_l22Draw.calls k g317 t314 t315 t316 t318 t321 t322 w _ ?side1 ?side2 A3.out).mono ?_); (case side1 => repeat (first | (with_reducible first | exact HI317.out | apply IsS102.alloc | apply IsS102.drewN | apply IsS102.drew | apply IsS102.set_1 | apply IsS102.set_2) | exact HI317.out)); (case side2 => repeat (first | (with_reducible first | exact HB.out | apply ah | apply ae | apply ag | refine ao ?_ (IsS102.ge HI317.out)) | exact HB.out)); rintro e w6 ⟨v319, rfl, ho0, hi, hb, hk⟩; refine ⟨_, rfl, ?_⟩; have n0_ := aa (bd ho0 (ar (by repeat (first | (with_reducible first | exact HB.out | apply ah | apply ae | apply ag | refine ao ?_ (IsS102.ge HI317.out)) | exact HB.out)))); have n1_ := aa (hb); have n2_ := aa (hi); clear HB; clear HI317; have HO320 := n0_; have HB := n1_; have HI317 := n2_; clear n0_ n1_ n2_; (try clear hb); (try clear hb2); (try clear hk); (try clear hi); (try clear ho0); obtain ⟨Ao7, co7, eo7⟩ := ap HO320.out; subst eo7) | ((with_reducible refine gate_callee (f := 113) rfl ?_); refine goesL_ (some 13) rfl rfl Try.func113 (by kernel_rfl) rfl #[.pointer (some ⟨g317, 0, none⟩), .slice Ao7 t318.length co7] rfl (by (try simp only [List.map_toArray, List.map_cons, List.map_nil]); first | done | rfl | (simp only [List.length_drop, List.length_take]; rfl)) ?_; (with_reducible refine (spec_l22DrawSteps.calls k g317 t314 t321 t322 _ _ t318 t323 t326 t327 w _ ?side1 ?side2 ?side3 ?side4 ?side5 A4.out).mono ?_); (case side1 => repeat (first | (with_reducible first | exact HI317.out | apply IsS102.alloc | apply IsS102.drewN | apply IsS102.drew | apply IsS102.set_1 | apply IsS102.set_2) | exact HI317.out)); (case side2 => repeat (first | (with_reducible first | exact HB.out | apply ah | apply ae | apply ag | refine ao ?_ (IsS102.ge HI317.out)) | exact HB.out)); (case side3 => repeat (first | exact (ai HO320.out).2.2 | (with_reducible refine ak ?_ _) | (with_reducible refine al ?_ _) | (with_reducible refine am ?_))); (case side4 => exact (ai HO320.out).2.1); (case side5 => exact far_slice (IsS102.own_ne HI317.out HO320.out (by decide))); rintro e w8 ⟨v324, rfl, ho0, hi, hb, hk⟩; refine ⟨_, rfl, ?_⟩; have n0_ := aa (an (bf (IsS102.apart (show IsS102 w _ g317 t314 t321 t322 from by repeat (first | (with_reducible first | exact HI317.out | apply IsS102.alloc | apply IsS102.drewN | apply IsS102.drew | apply IsS102.set_1 | apply IsS102.set_2) | exact HI317.out)) (by (with_reducible repeat (first | apply ab | apply ac | apply af)); exact HO320.out) (by decide)) hk (fun _ h => h.2)) (fun _ h => h.1)); have n1_ := aa (bd ho0 (ar (by repeat (first | (with_reducible first | exact HB.out | apply ah | apply ae | apply ag | refine ao ?_ (IsS102.ge HI317.out)) | exact HB.out)))); have n2_ := aa (hb); have n3_ := aa (hi); clear HO320; clear HB; clear HI317; have HO320 := n0_; have HO325 := n1_; have HB := n2_; have HI317 := n3_; clear n0_ n1_ n2_ n3_; (try clear hb); (try clear hb2); (try clear hk); (try clear hi); (try clear ho0)))
 go_ret2
 exact ⟨_, _, by first | rfl | (simp [errW_none, errW_some] <;> rfl) | (simp [*, errW_none, errW_some] <;> rfl), by (with_reducible repeat (first | apply ab | apply ac | apply af)); exact HO320.out, by (with_reducible repeat (first | apply ab | apply ac | apply af)); exact HO325.out, by repeat (first | (with_reducible first | exact HB.out | apply ah | apply ae | apply ag | refine ao ?_ (IsS102.ge HI317.out)) | exact HB.out)⟩

/-! ### spec_DrawApplyRepairs: function 54 -/
def spec_DrawApplyRepairs.f (k : Nat) (l0 : List Int) : Option (List Int × (List (S64))) := (spec_l22Both.f k l0).bind fun bt328 => (some (bt328.1, bt328.2))
theorem spec_DrawApplyRepairs.mono : ∀ a0 k, LeO (spec_DrawApplyRepairs.f k a0) (spec_DrawApplyRepairs.f (k + 1) a0) := by
 intro a0 k
 unfold spec_DrawApplyRepairs.f
 repeat' first
   | (with_reducible exact spec_l22Both.mono _ _)
   | (with_reducible exact LeO.refl _)
   | (with_reducible exact LeO.none _)
   | (with_reducible refine LeO.ite ?_ ?_)
   | (with_reducible refine LeO.bind ?_ (fun _ => ?_))
   | exact spec_l22Both.mono _ _
   | exact LeO.none _
   | refine LeO.ite ?_ ?_
   | refine LeO.bind ?_ (fun _ => ?_)
set_option maxHeartbeats 8000000 in
set_option maxRecDepth 100000 in
theorem spec_DrawApplyRepairs.calls (k : Nat) (A0 : Option Addr) (c0 : Nat) (l0 : List Int) (r1 : List Int) (r2 : List (S64)) (w : World) (hr0 : Kd.C (Kd.int .u8) w A0 l0.length l0) (hc0 : l0.length ≤ c0) (h : spec_DrawApplyRepairs.f k l0 = some (r1, r2)) :
  Calls Try.prog 54 #[.slice A0 l0.length c0] w fun e w' => ∃ v0_ v1_ : Value, e = .returned (.tuple #[v0_, v1_]) ∧ Kd.R (Kd.int .i64) 2 w' w.heap.size (fun _ => True) v0_ r1 ∧ Kd.R k64 64 w' w.heap.size (fun _ => True) v1_ r2 ∧ Below w.heap.size w w' := by
 have HR0 := aa hr0
 have HC0 := aa hc0
 clear hr0 hc0
 have HB := aa (Below.refl w.heap.size w)
 have H : ((spec_l22Both.f k l0).bind fun bt328 => (some (bt328.1, bt328.2))) = some (r1, r2) := h
 clear h
 replace H := bm.mp H
 obtain ⟨⟨t328, t329⟩, A20, H⟩ := H
 replace H : (some (t328, t329)) = some (r1, r2) := H
 have A2 := aa A20
 clear A20
 simp only [Option.some.injEq, Prod.mk.injEq] at H
 obtain ⟨rfl, rfl⟩ := H
 go_enter Try.func54, Try.ntmps54
 go_wp2_with (first | ((with_reducible refine gate_callee (f := 86) rfl ?_); refine goesL_ (some 5) rfl rfl Try.func86 (by kernel_rfl) rfl #[.slice A0 l0.length c0] rfl (by (try simp only [List.map_toArray, List.map_cons, List.map_nil]); first | done | rfl | (simp only [List.length_drop, List.length_take]; rfl)) ?_; (with_reducible refine (spec_l22Both.calls k _ _ l0 t328 t329 _ ?side1 ?side2 A2.out).mono ?_); (case side1 => repeat (first | exact HR0.out | (with_reducible refine ak ?_ _) | (with_reducible refine al ?_ _) | (with_reducible refine am ?_))); (case side2 => exact HC0.out); rintro e w3 ⟨v330, v332, rfl, ho0, ho1, hb⟩; refine ⟨_, rfl, ?_⟩; have n0_ := aa (bd ho0 (ar (by repeat (first | (with_reducible first | exact HB.out | apply ah | apply ae | apply ag) | exact HB.out)))); have n1_ := aa (bd ho1 (ar (by repeat (first | (with_reducible first | exact HB.out | apply ah | apply ae | apply ag) | exact HB.out)))); have n2_ := aa (ay (by repeat (first | (with_reducible first | exact HB.out | apply ah | apply ae | apply ag) | exact HB.out)) hb); clear HB; have HO331 := n0_; have HO333 := n1_; have HB := n2_; clear n0_ n1_ n2_; (try clear hb); (try clear hb2); (try clear hk); (try clear hi); (try clear ho0); (try clear ho1)))
 go_ret2
 exact ⟨_, _, by first | rfl | (simp [errW_none, errW_some] <;> rfl) | (simp [*, errW_none, errW_some] <;> rfl), by (with_reducible repeat (first | apply ab | apply ac | apply af)); exact HO331.out, by (with_reducible repeat (first | apply ab | apply ac | apply af)); exact HO333.out, by repeat (first | (with_reducible first | exact HB.out | apply ah | apply ae | apply ag) | exact HB.out)⟩

/-! ### spec_DrawUndoRepairs: function 55 -/
def spec_DrawUndoRepairs.f (k : Nat) (l0 : List Int) : Option (List Int × (List (S64))) := (spec_l22Both.f k l0).bind fun bt334 => ((spec_ApplyRepairs.f k bt334.1 bt334.2).bind fun bt340 => (if bt340.2 = 0 then (some (bt340.1, bt334.2)) else (some (bt334.1, bt334.2))))
theorem spec_DrawUndoRepairs.mono : ∀ a0 k, LeO (spec_DrawUndoRepairs.f k a0) (spec_DrawUndoRepairs.f (k + 1) a0) := by
 intro a0 k
 unfold spec_DrawUndoRepairs.f
 repeat' first
   | (with_reducible exact spec_ApplyRepairs.mono _ _ _)
   | (with_reducible exact spec_l22Both.mono _ _)
   | (with_reducible exact LeO.refl _)
   | (with_reducible exact LeO.none _)
   | (with_reducible refine LeO.ite ?_ ?_)
   | (with_reducible refine LeO.bind ?_ (fun _ => ?_))
   | exact spec_ApplyRepairs.mono _ _ _
   | exact spec_l22Both.mono _ _
   | exact LeO.none _
   | refine LeO.ite ?_ ?_
   | refine LeO.bind ?_ (fun _ => ?_)
set_option maxHeartbeats 8000000 in
set_option maxRecDepth 100000 in
theorem spec_DrawUndoRepairs.calls (k : Nat) (A0 : Option Addr) (c0 : Nat) (l0 : List Int) (r1 : List Int) (r2 : List (S64)) (w : World) (hr0 : Kd.C (Kd.int .u8) w A0 l0.length l0) (hc0 : l0.length ≤ c0) (h : spec_DrawUndoRepairs.f k l0 = some (r1, r2)) :
  Calls Try.prog 55 #[.slice A0 l0.length c0] w fun e w' => ∃ v0_ v1_ : Value, e = .returned (.tuple #[v0_, v1_]) ∧ Kd.R (Kd.int .i64) 2 w' w.heap.size (fun _ => True) v0_ r1 ∧ Kd.R k64 64 w' w.heap.size (fun _ => True) v1_ r2 ∧ Below w.heap.size w w' := by
 have HR0 := aa hr0
 have HC0 := aa hc0
 clear hr0 hc0
 have HB := aa (Below.refl w.heap.size w)
 have H : ((spec_l22Both.f k l0).bind fun bt334 => ((spec_ApplyRepairs.f k bt334.1 bt334.2).bind fun bt340 => (if bt340.2 = 0 then (some (bt340.1, bt334.2)) else (some (bt334.1, bt334.2))))) = some (r1, r2) := h
 clear h
 replace H := bm.mp H
 obtain ⟨⟨t334, t335⟩, A20, H⟩ := H
 (try dsimp only at H)
 have A2 := aa A20
 clear A20
 replace H := bm.mp H
 obtain ⟨⟨t340, t341⟩, A30, H⟩ := H
 replace H : (if t341 = 0 then (some (t340, t335)) else (some (t334, t335))) = some (r1, r2) := H
 have A3 := aa A30
 clear A30
 by_cases c4 : t341 = 0
 ·rw [if_pos c4] at H
  have c4b0 : (t341 == 0) = true := beq_iff_eq.mpr c4
  have c4b1 : (t341 != 0) = false := bne_eq_false_iff_eq.mpr c4
  clear c4
  simp only [Option.some.injEq, Prod.mk.injEq] at H
  obtain ⟨rfl, rfl⟩ := H
  go_enter Try.func55, Try.ntmps55
  go_wp2_with (first | ((with_reducible refine gate_callee (f := 86) rfl ?_); refine goesL_ (some 10) rfl rfl Try.func86 (by kernel_rfl) rfl #[.slice A0 l0.length c0] rfl (by (try simp only [List.map_toArray, List.map_cons, List.map_nil]); first | done | rfl | (simp only [List.length_drop, List.length_take]; rfl)) ?_; (with_reducible refine (spec_l22Both.calls k _ _ l0 t334 t335 _ ?side1 ?side2 A2.out).mono ?_); (case side1 => repeat (first | exact HR0.out | (with_reducible refine ak ?_ _) | (with_reducible refine al ?_ _) | (with_reducible refine am ?_))); (case side2 => exact HC0.out); rintro e w5 ⟨v336, v338, rfl, ho0, ho1, hb⟩; refine ⟨_, rfl, ?_⟩; have n0_ := aa (bd ho0 (ar (by repeat (first | (with_reducible first | exact HB.out | apply ah | apply ae | apply ag) | exact HB.out)))); have n1_ := aa (bd ho1 (ar (by repeat (first | (with_reducible first | exact HB.out | apply ah | apply ae | apply ag) | exact HB.out)))); have n2_ := aa (ay (by repeat (first | (with_reducible first | exact HB.out | apply ah | apply ae | apply ag) | exact HB.out)) hb); clear HB; have HO337 := n0_; have HO339 := n1_; have HB := n2_; clear n0_ n1_ n2_; (try clear hb); (try clear hb2); (try clear hk); (try clear hi); (try clear ho0); (try clear ho1); obtain ⟨Ao6, co6, eo6⟩ := ap HO337.out; subst eo6; obtain ⟨Ao7, co7, eo7⟩ := ap HO339.out; subst eo7) | ((with_reducible refine gate_callee (f := 33) rfl ?_); refine goesL_ (some 16) rfl rfl Try.func33 (by kernel_rfl) rfl #[.slice Ao6 t334.length co6, .slice Ao7 t335.length co7] rfl (by (try simp only [List.map_toArray, List.map_cons, List.map_nil]); first | done | rfl | (simp only [List.length_drop, List.length_take]; rfl)) ?_; (with_reducible refine (spec_ApplyRepairs.calls k _ _ t334 _ _ t335 t340 t341 _ ?side1 ?side2 ?side3 ?side4 A3.out).mono ?_); (case side1 => repeat (first | exact (ai HO337.out).2.2 | (with_reducible refine ak ?_ _) | (with_reducible refine al ?_ _) | (with_reducible refine am ?_))); (case side2 => exact (ai HO337.out).2.1); (case side3 => repeat (first | exact (ai HO339.out).2.2 | (with_reducible refine ak ?_ _) | (with_reducible refine al ?_ _) | (with_reducible refine am ?_))); (case side4 => exact (ai HO339.out).2.1); rintro e w8 ⟨v342, rfl, ho0, hb⟩; refine ⟨_, rfl, ?_⟩; have n0_ := aa (aw (by (with_reducible repeat (first | apply ab | apply ac | apply af)); exact HO337.out) (az ho0) hb); have n1_ := aa (aq (by (with_reducible repeat (first | apply ab | apply ac | apply af)); exact HO339.out) hb); have n2_ := aa (bd (ba ho0 (bc (by (with_reducible repeat (first | apply ab | apply ac | apply af)); exact HO337.out))) (ar (by repeat (first | (with_reducible first | exact HB.out | apply ah | apply ae | apply ag) | exact HB.out)))); have n3_ := aa (ay (by repeat (first | (with_reducible first | exact HB.out | apply ah | apply ae | apply ag) | exact HB.out)) hb); clear HO337; clear HO339; clear HB; have HO337 := n0_; have HO339 := n1_; have HO343 := n2_; have HB := n3_; clear n0_ n1_ n2_ n3_; (try clear hb); (try clear hb2); (try clear hk); (try clear hi); (try clear ho0)))
  go_ret2
  exact ⟨_, _, by first | rfl | (simp [errW_none, errW_some] <;> rfl) | (simp [*, errW_none, errW_some] <;> rfl), by (with_reducible repeat (first | apply ab | apply ac | apply af)); exact an HO343.out (fun _ hk => trivial), by (with_reducible repeat (first | apply ab | apply ac | apply af)); exact HO339.out, by repeat (first | (with_reducible first | exact HB.out | apply ah | apply ae | apply ag) | exact HB.out)⟩
 ·rw [if_neg c4] at H
  have c4b0 : (t341 == 0) = false := beq_eq_false_iff_ne.mpr c4
  have c4b1 : (t341 != 0) = true := bne_iff_ne.mpr c4
  simp only [Option.some.injEq, Prod.mk.injEq] at H
  obtain ⟨rfl, rfl⟩ := H
  go_enter Try.func55, Try.ntmps55
  go_wp2_with (first | ((with_reducible refine gate_callee (f := 86) rfl ?_); refine goesL_ (some 10) rfl rfl Try.func86 (by kernel_rfl) rfl #[.slice A0 l0.length c0] rfl (by (try simp only [List.map_toArray, List.map_cons, List.map_nil]); first | done | rfl | (simp only [List.length_drop, List.length_take]; rfl)) ?_; (with_reducible refine (spec_l22Both.calls k _ _ l0 t334 t335 _ ?side1 ?side2 A2.out).mono ?_); (case side1 => repeat (first | exact HR0.out | (with_reducible refine ak ?_ _) | (with_reducible refine al ?_ _) | (with_reducible refine am ?_))); (case side2 => exact HC0.out); rintro e w9 ⟨v336, v338, rfl, ho0, ho1, hb⟩; refine ⟨_, rfl, ?_⟩; have n0_ := aa (bd ho0 (ar (by repeat (first | (with_reducible first | exact HB.out | apply ah | apply ae | apply ag) | exact HB.out)))); have n1_ := aa (bd ho1 (ar (by repeat (first | (with_reducible first | exact HB.out | apply ah | apply ae | apply ag) | exact HB.out)))); have n2_ := aa (ay (by repeat (first | (with_reducible first | exact HB.out | apply ah | apply ae | apply ag) | exact HB.out)) hb); clear HB; have HO337 := n0_; have HO339 := n1_; have HB := n2_; clear n0_ n1_ n2_; (try clear hb); (try clear hb2); (try clear hk); (try clear hi); (try clear ho0); (try clear ho1); obtain ⟨Ao10, co10, eo10⟩ := ap HO337.out; subst eo10; obtain ⟨Ao11, co11, eo11⟩ := ap HO339.out; subst eo11) | ((with_reducible refine gate_callee (f := 33) rfl ?_); refine goesL_ (some 16) rfl rfl Try.func33 (by kernel_rfl) rfl #[.slice Ao10 t334.length co10, .slice Ao11 t335.length co11] rfl (by (try simp only [List.map_toArray, List.map_cons, List.map_nil]); first | done | rfl | (simp only [List.length_drop, List.length_take]; rfl)) ?_; (with_reducible refine (spec_ApplyRepairs.calls k _ _ t334 _ _ t335 t340 t341 _ ?side1 ?side2 ?side3 ?side4 A3.out).mono ?_); (case side1 => repeat (first | exact (ai HO337.out).2.2 | (with_reducible refine ak ?_ _) | (with_reducible refine al ?_ _) | (with_reducible refine am ?_))); (case side2 => exact (ai HO337.out).2.1); (case side3 => repeat (first | exact (ai HO339.out).2.2 | (with_reducible refine ak ?_ _) | (with_reducible refine al ?_ _) | (with_reducible refine am ?_))); (case side4 => exact (ai HO339.out).2.1); rintro e w12 ⟨v342, rfl, ho0, hb⟩; refine ⟨_, rfl, ?_⟩; have n0_ := aa (aw (by (with_reducible repeat (first | apply ab | apply ac | apply af)); exact HO337.out) (az ho0) hb); have n1_ := aa (aq (by (with_reducible repeat (first | apply ab | apply ac | apply af)); exact HO339.out) hb); have n2_ := aa (bd (ba ho0 (bc (by (with_reducible repeat (first | apply ab | apply ac | apply af)); exact HO337.out))) (ar (by repeat (first | (with_reducible first | exact HB.out | apply ah | apply ae | apply ag) | exact HB.out)))); have n3_ := aa (ay (by repeat (first | (with_reducible first | exact HB.out | apply ah | apply ae | apply ag) | exact HB.out)) hb); clear HO337; clear HO339; clear HB; have HO337 := n0_; have HO339 := n1_; have HO343 := n2_; have HB := n3_; clear n0_ n1_ n2_ n3_; (try clear hb); (try clear hb2); (try clear hk); (try clear hi); (try clear ho0)))
  go_ret2
  exact ⟨_, _, by first | rfl | (simp [errW_none, errW_some] <;> rfl) | (simp [*, errW_none, errW_some] <;> rfl), by (with_reducible repeat (first | apply ab | apply ac | apply af)); exact an HO337.out (fun _ hk => trivial), by (with_reducible repeat (first | apply ab | apply ac | apply af)); exact HO339.out, by repeat (first | (with_reducible first | exact HB.out | apply ah | apply ae | apply ag) | exact HB.out)⟩

end Go.Proofs.Ytfajacoagaamlaa.QFnRepairs
