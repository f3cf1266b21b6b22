/- Walks of the Go functions that the law FnRepairs reaches: written by a program of this session. -/
import Derived.Test.YtfajacoagaamlaaQFnRepairsx0
import Derived.Test.YtfajacoagaamlaaQFnRepairsx2
import Derived.Test.YtfajacoagaamlaaQFnRepairsx6
import Derived.Test.YtfajacoagaamlaaQFnRepairsx7
import Derived.Test.YtfajacoagaamlaaQFnRepairsx8
namespace Go.Proofs.Ytfajacoagaamlaa.QFnRepairs
open Go.RowKit Go.Proofs.YtfajacoagaamlaaW.PrintWords Go.Proofs.YtfajacoagaamlaaW.PrintLast Go.Proofs.YtfajacoagaamlaaW.PrintMore
attribute [local go_sem] max2_int min2_int max_two min_two max_three min_three max_four min_four   -- for this text's walks alone
open Go.Proofs.YtfajacoagaamlaaW.PrintWords renaming below_alloc → ah, below_drew1 → ag, below_set → ao, below_size → ar, pw_below_drewN → ae
open Go.Proofs.YtfajacoagaamlaaW.PrintWords.Aside0 renaming mk → aa
open Go.Proofs.YtfajacoagaamlaaW.PrintWords.Kd renaming C_alloc → ak, C_drew → am, C_drewN → al, R_alloc → ab, R_drew → af, R_drewN → ac, R_keep → bf, R_lower → bd, R_mono → an, R_reads' → ai, R_slice → ap
open Option renaming bind_eq_some_iff → bm
set_option linter.unusedVariables false
set_option linter.unusedSimpArgs false

/-! ### spec_DrawReadStates: function 58 -/
def spec_DrawReadStates.l0 : Nat → ByteArray → Int → Option (ByteArray)
 | 0, _, _ => none
 | k + 1, x4, x5 => if (x4.size : Int) < x5 then (if x4.size + 1 ≤ 9223372036854775807 then (spec_DrawReadStates.l0 k (x4 ++ (⟨#[111]⟩ : ByteArray)) x5) else (none)) else (some x4)
def spec_DrawReadStates.f (k : Nat) (l0 : List Int) : Option (ByteArray) := (spec_l00From.f l0).bind fun bt421 => ((spec_l00Src_pick.f bt421.1 bt421.2.1 bt421.2.2 9).bind fun bt425 => ((spec_l22New.f k bt421.1 bt425.2.1 bt425.2.2 bt425.1).bind fun bt428 => ((spec_l22Text.f k bt428.1).bind fun t433 => ((spec_l00Src_pick.f bt421.1 bt428.2.1 bt428.2.2 6).bind fun bt434 => (if bt434.1 = 0 then ((spec_l01Spoil.f bt421.1 bt434.2.1 bt434.2.2 t433).bind fun bt437 => (some bt437.1)) else (if bt434.1 = 1 then ((spec_l00Src_pick.f bt421.1 bt434.2.1 bt434.2.2 2).bind fun bt440 => (spec_DrawReadStates.l0 k t433 (wrap64 (40 + bt440.1)))) else (some t433)))))))
theorem spec_DrawReadStates.mono_l : ∀ k, (∀ y0 y1, LeO (spec_DrawReadStates.l0 k y0 y1) (spec_DrawReadStates.l0 (k + 1) y0 y1))
 | 0 => fun _ _ r h => by simp [spec_DrawReadStates.l0] at h
 | k + 1 => by
  have ih0 := spec_DrawReadStates.mono_l k
  ·intro y0 y1
   unfold spec_DrawReadStates.l0
   repeat' first
   | (with_reducible exact ih0 _ _)
   | (with_reducible exact spec_l22New.mono _ _ _ _ _)
   | (with_reducible exact spec_l22Text.mono _ _)
   | (with_reducible exact LeO.refl _)
   | (with_reducible exact LeO.none _)
   | (with_reducible refine LeO.ite ?_ ?_)
   | (with_reducible refine LeO.bind ?_ (fun _ => ?_))
   | exact ih0 _ _
   | exact spec_l22New.mono _ _ _ _ _
   | exact spec_l22Text.mono _ _
   | exact LeO.none _
   | refine LeO.ite ?_ ?_
   | refine LeO.bind ?_ (fun _ => ?_)
theorem spec_DrawReadStates.mono : ∀ a0 k, LeO (spec_DrawReadStates.f k a0) (spec_DrawReadStates.f (k + 1) a0) := by
 intro a0 k
 have ih0 := spec_DrawReadStates.mono_l k
 unfold spec_DrawReadStates.f
 repeat' first
   | (with_reducible exact ih0 _ _)
   | (with_reducible exact spec_l22New.mono _ _ _ _ _)
   | (with_reducible exact spec_l22Text.mono _ _)
   | (with_reducible exact LeO.refl _)
   | (with_reducible exact LeO.none _)
   | (with_reducible refine LeO.ite ?_ ?_)
   | (with_reducible refine LeO.bind ?_ (fun _ => ?_))
   | exact ih0 _ _
   | exact spec_l22New.mono _ _ _ _ _
   | exact spec_l22Text.mono _ _
   | exact LeO.none _
   | refine LeO.ite ?_ ?_
   | refine LeO.bind ?_ (fun _ => ?_)
set_option maxHeartbeats 8000000 in
set_option maxRecDepth 100000 in
theorem spec_DrawReadStates.calls (k : Nat) (A0 : Option Addr) (c0 : Nat) (l0 : List Int) (r : ByteArray) (w : World) (hr0 : Kd.C (Kd.int .u8) w A0 l0.length l0) (hc0 : l0.length ≤ c0) (h : spec_DrawReadStates.f k l0 = some r) :
  Calls Try.prog 58 #[.slice A0 l0.length c0] w fun e w' => e = .returned (.string r) ∧ Below w.heap.size w w' := by
 have HR0 := aa hr0
 have HC0 := aa hc0
 clear hr0 hc0
 have HB := aa (Below.refl w.heap.size w)
 have H : ((spec_l00From.f l0).bind fun bt421 => ((spec_l00Src_pick.f bt421.1 bt421.2.1 bt421.2.2 9).bind fun bt425 => ((spec_l22New.f k bt421.1 bt425.2.1 bt425.2.2 bt425.1).bind fun bt428 => ((spec_l22Text.f k bt428.1).bind fun t433 => ((spec_l00Src_pick.f bt421.1 bt428.2.1 bt428.2.2 6).bind fun bt434 => (if bt434.1 = 0 then ((spec_l01Spoil.f bt421.1 bt434.2.1 bt434.2.2 t433).bind fun bt437 => (some bt437.1)) else (if bt434.1 = 1 then ((spec_l00Src_pick.f bt421.1 bt434.2.1 bt434.2.2 2).bind fun bt440 => (spec_DrawReadStates.l0 k t433 (wrap64 (40 + bt440.1)))) else (some t433)))))))) = some r := h
 clear h
 replace H := bm.mp H
 obtain ⟨⟨t421, t422, t423⟩, A20, H⟩ := H
 (try dsimp only at H)
 have A2 := aa A20
 clear A20
 replace H := bm.mp H
 obtain ⟨⟨t425, t426, t427⟩, A30, H⟩ := H
 (try dsimp only at H)
 have A3 := aa A30
 clear A30
 replace H := bm.mp H
 obtain ⟨⟨t428, t431, t432⟩, A40, H⟩ := H
 (try dsimp only at H)
 have A4 := aa A40
 clear A40
 replace H := bm.mp H
 obtain ⟨t433, A50, H⟩ := H
 (try dsimp only at H)
 have A5 := aa A50
 clear A50
 replace H := bm.mp H
 obtain ⟨⟨t434, t435, t436⟩, A60, H⟩ := H
 (try dsimp only at H)
 have A6 := aa A60
 clear A60
 by_cases c7 : t434 = 0
 ·rw [if_pos c7] at H
  have c7b0 : (t434 == 0) = true := beq_iff_eq.mpr c7
  have c7b1 : (t434 != 0) = false := bne_eq_false_iff_eq.mpr c7
  clear c7
  replace H := bm.mp H
  obtain ⟨⟨t437, t438, t439⟩, A80, H⟩ := H
  replace H : (some t437) = some r := H
  have A8 := aa A80
  clear A80
  obtain rfl := Option.some.inj H
  go_enter Try.func58, Try.ntmps58
  go_wp2_with (first | ((with_reducible refine gate_callee (f := 85) rfl ?_); refine goesL_ (some 7) rfl rfl Try.func85 (by kernel_rfl) rfl #[.slice A0 l0.length c0] rfl (by (try simp only [List.map_toArray, List.map_cons, List.map_nil]); first | done | rfl | (simp only [List.length_drop, List.length_take]; rfl)) ?_; (with_reducible refine (spec_l00From.calls _ _ l0 t421 t422 t423 w _ ?side1 ?side2 ?side3 A2.out).mono ?_); (case side1 => repeat (first | (with_reducible first | exact HB.out | apply ah | apply ae | apply ag) | exact HB.out)); (case side2 => exact HR0.out); (case side3 => exact HC0.out); rintro e w9 ⟨g424, rfl, hi, hb, hb2⟩; refine ⟨_, rfl, ?_⟩; have n0_ := aa (hb); have n1_ := aa (hi); clear HB; have HB := n0_; have HI424 := n1_; clear n0_ n1_; (try clear hb); (try clear hb2); (try clear hk); (try clear hi)) | ((with_reducible refine gate_callee (f := 88) rfl ?_); refine goesL_ (some 10) rfl rfl Try.func88 (by kernel_rfl) rfl #[.pointer (some ⟨g424, 0, none⟩), .int .i64 9] rfl (by (try simp only [List.map_toArray, List.map_cons, List.map_nil]); first | done | rfl | (simp only [List.length_drop, List.length_take]; rfl)) ?_; (with_reducible refine (spec_l00Src_pick.calls g424 t421 t422 t423 9 t425 t426 t427 w _ ?side1 ?side2 A3.out).mono ?_); (case side1 => repeat (first | (with_reducible first | exact HI424.out | apply IsS102.alloc | apply IsS102.drewN | apply IsS102.drew | apply IsS102.set_1 | apply IsS102.set_2) | exact HI424.out)); (case side2 => repeat (first | (with_reducible first | exact HB.out | apply ah | apply ae | apply ag | refine ao ?_ (IsS102.ge HI424.out)) | exact HB.out)); rintro e w10 ⟨rfl, hi, hb, hk⟩; refine ⟨_, rfl, ?_⟩; have n0_ := aa (hb); have n1_ := aa (hi); clear HB; clear HI424; have HB := n0_; have HI424 := n1_; clear n0_ n1_; (try clear hb); (try clear hb2); (try clear hk); (try clear hi)) | ((with_reducible refine gate_callee (f := 87) rfl ?_); refine goesL_ (some 11) rfl rfl Try.func87 (by kernel_rfl) rfl #[.pointer (some ⟨g424, 0, none⟩), .int .i64 t425] rfl (by (try simp only [List.map_toArray, List.map_cons, List.map_nil]); first | done | rfl | (simp only [List.length_drop, List.length_take]; rfl)) ?_; (with_reducible refine (spec_l22New.calls k g424 t421 t426 t427 t425 t428 t431 t432 w _ ?side1 ?side2 A4.out).mono ?_); (case side1 => repeat (first | (with_reducible first | exact HI424.out | apply IsS102.alloc | apply IsS102.drewN | apply IsS102.drew | apply IsS102.set_1 | apply IsS102.set_2) | exact HI424.out)); (case side2 => repeat (first | (with_reducible first | exact HB.out | apply ah | apply ae | apply ag | refine ao ?_ (IsS102.ge HI424.out)) | exact HB.out)); rintro e w11 ⟨v429, rfl, ho0, hi, hb, hk⟩; refine ⟨_, rfl, ?_⟩; have n0_ := aa (bd ho0 (ar (by repeat (first | (with_reducible first | exact HB.out | apply ah | apply ae | apply ag | refine ao ?_ (IsS102.ge HI424.out)) | exact HB.out)))); have n1_ := aa (hb); have n2_ := aa (hi); clear HB; clear HI424; have HO430 := n0_; have HB := n1_; have HI424 := n2_; clear n0_ n1_ n2_; (try clear hb); (try clear hb2); (try clear hk); (try clear hi); (try clear ho0); obtain ⟨Ao12, co12, eo12⟩ := ap HO430.out; subst eo12) | ((with_reducible refine gate_callee (f := 61) rfl ?_); refine goesL_ (some 12) rfl rfl Try.func61 (by kernel_rfl) rfl #[.slice Ao12 t428.length co12] rfl (by (try simp only [List.map_toArray, List.map_cons, List.map_nil]); first | done | rfl | (simp only [List.length_drop, List.length_take]; rfl)) ?_; (with_reducible refine (spec_l22Text.calls k _ _ t428 t433 _ ?side1 ?side2 A5.out).mono ?_); (case side1 => repeat (first | exact (ai HO430.out).2.2 | (with_reducible refine ak ?_ _) | (with_reducible refine al ?_ _) | (with_reducible refine am ?_))); (case side2 => exact (ai HO430.out).2.1); rintro e w' ⟨rfl, ⟨nd, rfl⟩⟩; refine ⟨_, rfl, ?_⟩) | ((with_reducible refine gate_callee (f := 88) rfl ?_); refine goesL_ (some 14) rfl rfl Try.func88 (by kernel_rfl) rfl #[.pointer (some ⟨g424, 0, none⟩), .int .i64 6] rfl (by (try simp only [List.map_toArray, List.map_cons, List.map_nil]); first | done | rfl | (simp only [List.length_drop, List.length_take]; rfl)) ?_; (with_reducible refine (spec_l00Src_pick.calls g424 t421 t431 t432 6 t434 t435 t436 w _ ?side1 ?side2 A6.out).mono ?_); (case side1 => repeat (first | (with_reducible first | exact HI424.out | apply IsS102.alloc | apply IsS102.drewN | apply IsS102.drew | apply IsS102.set_1 | apply IsS102.set_2) | exact HI424.out)); (case side2 => repeat (first | (with_reducible first | exact HB.out | apply ah | apply ae | apply ag | refine ao ?_ (IsS102.ge HI424.out)) | exact HB.out)); rintro e w13 ⟨rfl, hi, hb, hk⟩; refine ⟨_, rfl, ?_⟩; have n0_ := aa (an (bf (IsS102.apart (show IsS102 w _ g424 t421 t431 t432 from by repeat (first | (with_reducible first | exact HI424.out | apply IsS102.alloc | apply IsS102.drewN | apply IsS102.drew | apply IsS102.set_1 | apply IsS102.set_2) | exact HI424.out)) (by (with_reducible repeat (first | apply ab | apply ac | apply af)); exact HO430.out) (by decide)) hk (fun _ h => h.2)) (fun _ h => h.1)); have n1_ := aa (hb); have n2_ := aa (hi); clear HO430; clear HB; clear HI424; have HO430 := n0_; have HB := n1_; have HI424 := n2_; clear n0_ n1_ n2_; (try clear hb); (try clear hb2); (try clear hk); (try clear hi)) | ((with_reducible refine gate_callee (f := 89) rfl ?_); refine goesL_ (some 19) rfl rfl Try.func89 (by kernel_rfl) rfl #[.pointer (some ⟨g424, 0, none⟩), .string t433] rfl (by (try simp only [List.map_toArray, List.map_cons, List.map_nil]); first | done | rfl | (simp only [List.length_drop, List.length_take]; rfl)) ?_; (with_reducible refine (spec_l01Spoil.calls g424 t421 t435 t436 t433 t437 t438 t439 w _ ?side1 ?side2 A8.out).mono ?_); (case side1 => repeat (first | (with_reducible first | exact HI424.out | apply IsS102.alloc | apply IsS102.drewN | apply IsS102.drew | apply IsS102.set_1 | apply IsS102.set_2) | exact HI424.out)); (case side2 => repeat (first | (with_reducible first | exact HB.out | apply ah | apply ae | apply ag | refine ao ?_ (IsS102.ge HI424.out)) | exact HB.out)); rintro e w14 ⟨rfl, hi, hb, hk⟩; refine ⟨_, rfl, ?_⟩; have n0_ := aa (an (bf (IsS102.apart (show IsS102 w _ g424 t421 t435 t436 from by repeat (first | (with_reducible first | exact HI424.out | apply IsS102.alloc | apply IsS102.drewN | apply IsS102.drew | apply IsS102.set_1 | apply IsS102.set_2) | exact HI424.out)) (by (with_reducible repeat (first | apply ab | apply ac | apply af)); exact HO430.out) (by decide)) hk (fun _ h => h.2)) (fun _ h => h.1)); have n1_ := aa (hb); have n2_ := aa (hi); clear HO430; clear HB; clear HI424; have HO430 := n0_; have HB := n1_; have HI424 := n2_; clear n0_ n1_ n2_; (try clear hb); (try clear hb2); (try clear hk); (try clear hi)))
  go_ret
  exact ⟨by first | rfl | (simp [errW_none, errW_some] <;> rfl) | (simp [*, errW_none, errW_some] <;> rfl), by repeat (first | (with_reducible first | exact HB.out | apply ah | apply ae | apply ag | refine ao ?_ (IsS102.ge HI424.out)) | exact HB.out)⟩
 ·rw [if_neg c7] at H
  have c7b0 : (t434 == 0) = false := beq_eq_false_iff_ne.mpr c7
  have c7b1 : (t434 != 0) = true := bne_iff_ne.mpr c7
  by_cases c15 : t434 = 1
  ·rw [if_pos c15] at H
   have c15b0 : (t434 == 1) = true := beq_iff_eq.mpr c15
   have c15b1 : (t434 != 1) = false := bne_eq_false_iff_eq.mpr c15
   clear c15
   replace H := bm.mp H
   obtain ⟨⟨t440, t441, t442⟩, A160, H⟩ := H
   replace H : (spec_DrawReadStates.l0 k t433 (wrap64 (40 + t440))) = some r := H
   have A16 := aa A160
   clear A160
   have H' := aa H
   clear H
   go_enter Try.func58, Try.ntmps58
   go_wp2_with (first | ((with_reducible refine gate_callee (f := 85) rfl ?_); refine goesL_ (some 7) rfl rfl Try.func85 (by kernel_rfl) rfl #[.slice A0 l0.length c0] rfl (by (try simp only [List.map_toArray, List.map_cons, List.map_nil]); first | done | rfl | (simp only [List.length_drop, List.length_take]; rfl)) ?_; (with_reducible refine (spec_l00From.calls _ _ l0 t421 t422 t423 w _ ?side1 ?side2 ?side3 A2.out).mono ?_); (case side1 => repeat (first | (with_reducible first | exact HB.out | apply ah | apply ae | apply ag) | exact HB.out)); (case side2 => exact HR0.out); (case side3 => exact HC0.out); rintro e w17 ⟨g424, rfl, hi, hb, hb2⟩; refine ⟨_, rfl, ?_⟩; have n0_ := aa (hb); have n1_ := aa (hi); clear HB; have HB := n0_; have HI424 := n1_; clear n0_ n1_; (try clear hb); (try clear hb2); (try clear hk); (try clear hi)) | ((with_reducible refine gate_callee (f := 88) rfl ?_); refine goesL_ (some 10) rfl rfl Try.func88 (by kernel_rfl) rfl #[.pointer (some ⟨g424, 0, none⟩), .int .i64 9] rfl (by (try simp only [List.map_toArray, List.map_cons, List.map_nil]); first | done | rfl | (simp only [List.length_drop, List.length_take]; rfl)) ?_; (with_reducible refine (spec_l00Src_pick.calls g424 t421 t422 t423 9 t425 t426 t427 w _ ?side1 ?side2 A3.out).mono ?_); (case side1 => repeat (first | (with_reducible first | exact HI424.out | apply IsS102.alloc | apply IsS102.drewN | apply IsS102.drew | apply IsS102.set_1 | apply IsS102.set_2) | exact HI424.out)); (case side2 => repeat (first | (with_reducible first | exact HB.out | apply ah | apply ae | apply ag | refine ao ?_ (IsS102.ge HI424.out)) | exact HB.out)); rintro e w18 ⟨rfl, hi, hb, hk⟩; refine ⟨_, rfl, ?_⟩; have n0_ := aa (hb); have n1_ := aa (hi); clear HB; clear HI424; have HB := n0_; have HI424 := n1_; clear n0_ n1_; (try clear hb); (try clear hb2); (try clear hk); (try clear hi)) | ((with_reducible refine gate_callee (f := 87) rfl ?_); refine goesL_ (some 11) rfl rfl Try.func87 (by kernel_rfl) rfl #[.pointer (some ⟨g424, 0, none⟩), .int .i64 t425] rfl (by (try simp only [List.map_toArray, List.map_cons, List.map_nil]); first | done | rfl | (simp only [List.length_drop, List.length_take]; rfl)) ?_; (with_reducible refine (spec_l22New.calls k g424 t421 t426 t427 t425 t428 t431 t432 w _ ?side1 ?side2 A4.out).mono ?_); (case side1 => repeat (first | (with_reducible first | exact HI424.out | apply IsS102.alloc | apply IsS102.drewN | apply IsS102.drew | apply IsS102.set_1 | apply IsS102.set_2) | exact HI424.out)); (case side2 => repeat (first | (with_reducible first | exact HB.out | apply ah | apply ae | apply ag | refine ao ?_ (IsS102.ge HI424.out)) | exact HB.out)); rintro e w19 ⟨v429, rfl, ho0, hi, hb, hk⟩; refine ⟨_, rfl, ?_⟩; have n0_ := aa (bd ho0 (ar (by repeat (first | (with_reducible first | exact HB.out | apply ah | apply ae | apply ag | refine ao ?_ (IsS102.ge HI424.out)) | exact HB.out)))); have n1_ := aa (hb); have n2_ := aa (hi); clear HB; clear HI424; have HO430 := n0_; have HB := n1_; have HI424 := n2_; clear n0_ n1_ n2_; (try clear hb); (try clear hb2); (try clear hk); (try clear hi); (try clear ho0); obtain ⟨Ao20, co20, eo20⟩ := ap HO430.out; subst eo20) | ((with_reducible refine gate_callee (f := 61) rfl ?_); refine goesL_ (some 12) rfl rfl Try.func61 (by kernel_rfl) rfl #[.slice Ao20 t428.length co20] rfl (by (try simp only [List.map_toArray, List.map_cons, List.map_nil]); first | done | rfl | (simp only [List.length_drop, List.length_take]; rfl)) ?_; (with_reducible refine (spec_l22Text.calls k _ _ t428 t433 _ ?side1 ?side2 A5.out).mono ?_); (case side1 => repeat (first | exact (ai HO430.out).2.2 | (with_reducible refine ak ?_ _) | (with_reducible refine al ?_ _) | (with_reducible refine am ?_))); (case side2 => exact (ai HO430.out).2.1); rintro e w' ⟨rfl, ⟨nd, rfl⟩⟩; refine ⟨_, rfl, ?_⟩) | ((with_reducible refine gate_callee (f := 88) rfl ?_); refine goesL_ (some 14) rfl rfl Try.func88 (by kernel_rfl) rfl #[.pointer (some ⟨g424, 0, none⟩), .int .i64 6] rfl (by (try simp only [List.map_toArray, List.map_cons, List.map_nil]); first | done | rfl | (simp only [List.length_drop, List.length_take]; rfl)) ?_; (with_reducible refine (spec_l00Src_pick.calls g424 t421 t431 t432 6 t434 t435 t436 w _ ?side1 ?side2 A6.out).mono ?_); (case side1 => repeat (first | (with_reducible first | exact HI424.out | apply IsS102.alloc | apply IsS102.drewN | apply IsS102.drew | apply IsS102.set_1 | apply IsS102.set_2) | exact HI424.out)); (case side2 => repeat (first | (with_reducible first | exact HB.out | apply ah | apply ae | apply ag | refine ao ?_ (IsS102.ge HI424.out)) | exact HB.out)); rintro e w21 ⟨rfl, hi, hb, hk⟩; refine ⟨_, rfl, ?_⟩; have n0_ := aa (an (bf (IsS102.apart (show IsS102 w _ g424 t421 t431 t432 from by repeat (first | (with_reducible first | exact HI424.out | apply IsS102.alloc | apply IsS102.drewN | apply IsS102.drew | apply IsS102.set_1 | apply IsS102.set_2) | exact HI424.out)) (by (with_reducible repeat (first | apply ab | apply ac | apply af)); exact HO430.out) (by decide)) hk (fun _ h => h.2)) (fun _ h => h.1)); have n1_ := aa (hb); have n2_ := aa (hi); clear HO430; clear HB; clear HI424; have HO430 := n0_; have HB := n1_; have HI424 := n2_; clear n0_ n1_ n2_; (try clear hb); (try clear hb2); (try clear hk); (try clear hi)) | ((with_reducible refine gate_callee (f := 88) rfl ?_); refine goesL_ (some 23) rfl rfl Try.func88 (by kernel_rfl) rfl #[.pointer (some ⟨g424, 0, none⟩), .int .i64 2] rfl (by (try simp only [List.map_toArray, List.map_cons, List.map_nil]); first | done | rfl | (simp only [List.length_drop, List.length_take]; rfl)) ?_; (with_reducible refine (spec_l00Src_pick.calls g424 t421 t435 t436 2 t440 t441 t442 w _ ?side1 ?side2 A16.out).mono ?_); (case side1 => repeat (first | (with_reducible first | exact HI424.out | apply IsS102.alloc | apply IsS102.drewN | apply IsS102.drew | apply IsS102.set_1 | apply IsS102.set_2) | exact HI424.out)); (case side2 => repeat (first | (with_reducible first | exact HB.out | apply ah | apply ae | apply ag | refine ao ?_ (IsS102.ge HI424.out)) | exact HB.out)); rintro e w22 ⟨rfl, hi, hb, hk⟩; refine ⟨_, rfl, ?_⟩; have n0_ := aa (an (bf (IsS102.apart (show IsS102 w _ g424 t421 t435 t436 from by repeat (first | (with_reducible first | exact HI424.out | apply IsS102.alloc | apply IsS102.drewN | apply IsS102.drew | apply IsS102.set_1 | apply IsS102.set_2) | exact HI424.out)) (by (with_reducible repeat (first | apply ab | apply ac | apply af)); exact HO430.out) (by decide)) hk (fun _ h => h.2)) (fun _ h => h.1)); have n1_ := aa (hb); have n2_ := aa (hi); clear HO430; clear HB; clear HI424; have HO430 := n0_; have HB := n1_; have HI424 := n2_; clear n0_ n1_ n2_; (try clear hb); (try clear hb2); (try clear hk); (try clear hi)))
   go_loopg [4] k (fun kq v4 w' => ∃ (x4_1 : ByteArray), v4 = .string x4_1 ∧ Aside0 (spec_DrawReadStates.l0 kq x4_1 (wrap64 (40 + t440)) = some r) ∧ Aside0 (kq ≤ k) ∧ Aside0 (Below w.heap.size w w'))
   case atStart => exact ⟨(t433), (by first | rfl | (simp; done) | (simp [*]; done)), H', ⟨Nat.le_refl _⟩, ⟨by repeat (first | (with_reducible first | exact HB.out | apply ah | apply ae | apply ag | refine ao ?_ (IsS102.ge HI424.out)) | exact HB.out)⟩⟩
   case round =>
    clear H'
    try clear c1
    try clear p2
    try clear c5
    try clear c6
    try clear p6
    try clear c7
    try clear c7b0
    try clear c7b1
    try clear c8
    try clear c15
    try clear c15b0
    try clear c15b1
    obtain ⟨x4_1, rfl, HA, HK1, HB⟩ := hrel
    cases gk with
    | zero => exact absurd HA.out (by simp [spec_DrawReadStates.l0])
    | succ k1 =>
     have H := HA.out
     clear HA
     simp only [spec_DrawReadStates.l0] at H
     by_cases c23 : (x4_1.size : Int) < (wrap64 (40 + t440))
     ·rw [if_pos c23] at H
      have c23b0 : decide ((x4_1.size : Int) < (wrap64 (40 + t440))) = true := decide_eq_true c23
      clear c23
      by_cases c24 : x4_1.size + 1 ≤ 9223372036854775807
      ·rw [if_pos c24] at H
       have c24b0 := eq_true c24
       have c24b1 : decide (x4_1.size + 1 ≤ 9223372036854775807) = true := decide_eq_true c24
       try have c24b2 : (9223372036854775807 < x4_1.size + 1) = False := eq_false (Nat.not_lt.2 c24)
       have H' := aa H
       clear H
       go_wp2
       go_roundg k1
       case measure => have := HK1.out; omega
       case rel => exact ⟨(x4_1 ++ (⟨#[111]⟩ : ByteArray)), (by first | rfl | (simp; done) | (simp [*]; done)), H', ⟨by have := HK1.out; omega⟩, ⟨by repeat (first | (with_reducible first | exact HB.out | apply ah | apply ae | apply ag) | exact HB.out)⟩⟩
      ·rw [if_neg c24] at H
       exact absurd H (by simp)
     ·rw [if_neg c23] at H
      have c23b0 : decide ((x4_1.size : Int) < (wrap64 (40 + t440))) = false := decide_eq_false c23
      clear c23
      obtain rfl := Option.some.inj H
      go_wp2
      go_ret
      exact ⟨by first | rfl | (simp [errW_none, errW_some] <;> rfl) | (simp [*, errW_none, errW_some] <;> rfl), by repeat (first | (with_reducible first | exact HB.out | apply ah | apply ae | apply ag) | exact HB.out)⟩
  ·rw [if_neg c15] at H
   have c15b0 : (t434 == 1) = false := beq_eq_false_iff_ne.mpr c15
   have c15b1 : (t434 != 1) = true := bne_iff_ne.mpr c15
   obtain rfl := Option.some.inj H
   go_enter Try.func58, Try.ntmps58
   go_wp2_with (first | ((with_reducible refine gate_callee (f := 85) rfl ?_); refine goesL_ (some 7) rfl rfl Try.func85 (by kernel_rfl) rfl #[.slice A0 l0.length c0] rfl (by (try simp only [List.map_toArray, List.map_cons, List.map_nil]); first | done | rfl | (simp only [List.length_drop, List.length_take]; rfl)) ?_; (with_reducible refine (spec_l00From.calls _ _ l0 t421 t422 t423 w _ ?side1 ?side2 ?side3 A2.out).mono ?_); (case side1 => repeat (first | (with_reducible first | exact HB.out | apply ah | apply ae | apply ag) | exact HB.out)); (case side2 => exact HR0.out); (case side3 => exact HC0.out); rintro e w25 ⟨g424, rfl, hi, hb, hb2⟩; refine ⟨_, rfl, ?_⟩; have n0_ := aa (hb); have n1_ := aa (hi); clear HB; have HB := n0_; have HI424 := n1_; clear n0_ n1_; (try clear hb); (try clear hb2); (try clear hk); (try clear hi)) | ((with_reducible refine gate_callee (f := 88) rfl ?_); refine goesL_ (some 10) rfl rfl Try.func88 (by kernel_rfl) rfl #[.pointer (some ⟨g424, 0, none⟩), .int .i64 9] rfl (by (try simp only [List.map_toArray, List.map_cons, List.map_nil]); first | done | rfl | (simp only [List.length_drop, List.length_take]; rfl)) ?_; (with_reducible refine (spec_l00Src_pick.calls g424 t421 t422 t423 9 t425 t426 t427 w _ ?side1 ?side2 A3.out).mono ?_); (case side1 => repeat (first | (with_reducible first | exact HI424.out | apply IsS102.alloc | apply IsS102.drewN | apply IsS102.drew | apply IsS102.set_1 | apply IsS102.set_2) | exact HI424.out)); (case side2 => repeat (first | (with_reducible first | exact HB.out | apply ah | apply ae | apply ag | refine ao ?_ (IsS102.ge HI424.out)) | exact HB.out)); rintro e w26 ⟨rfl, hi, hb, hk⟩; refine ⟨_, rfl, ?_⟩; have n0_ := aa (hb); have n1_ := aa (hi); clear HB; clear HI424; have HB := n0_; have HI424 := n1_; clear n0_ n1_; (try clear hb); (try clear hb2); (try clear hk); (try clear hi)) | ((with_reducible refine gate_callee (f := 87) rfl ?_); refine goesL_ (some 11) rfl rfl Try.func87 (by kernel_rfl) rfl #[.pointer (some ⟨g424, 0, none⟩), .int .i64 t425] rfl (by (try simp only [List.map_toArray, List.map_cons, List.map_nil]); first | done | rfl | (simp only [List.length_drop, List.length_take]; rfl)) ?_; (with_reducible refine (spec_l22New.calls k g424 t421 t426 t427 t425 t428 t431 t432 w _ ?side1 ?side2 A4.out).mono ?_); (case side1 => repeat (first | (with_reducible first | exact HI424.out | apply IsS102.alloc | apply IsS102.drewN | apply IsS102.drew | apply IsS102.set_1 | apply IsS102.set_2) | exact HI424.out)); (case side2 => repeat (first | (with_reducible first | exact HB.out | apply ah | apply ae | apply ag | refine ao ?_ (IsS102.ge HI424.out)) | exact HB.out)); rintro e w27 ⟨v429, rfl, ho0, hi, hb, hk⟩; refine ⟨_, rfl, ?_⟩; have n0_ := aa (bd ho0 (ar (by repeat (first | (with_reducible first | exact HB.out | apply ah | apply ae | apply ag | refine ao ?_ (IsS102.ge HI424.out)) | exact HB.out)))); have n1_ := aa (hb); have n2_ := aa (hi); clear HB; clear HI424; have HO430 := n0_; have HB := n1_; have HI424 := n2_; clear n0_ n1_ n2_; (try clear hb); (try clear hb2); (try clear hk); (try clear hi); (try clear ho0); obtain ⟨Ao28, co28, eo28⟩ := ap HO430.out; subst eo28) | ((with_reducible refine gate_callee (f := 61) rfl ?_); refine goesL_ (some 12) rfl rfl Try.func61 (by kernel_rfl) rfl #[.slice Ao28 t428.length co28] rfl (by (try simp only [List.map_toArray, List.map_cons, List.map_nil]); first | done | rfl | (simp only [List.length_drop, List.length_take]; rfl)) ?_; (with_reducible refine (spec_l22Text.calls k _ _ t428 t433 _ ?side1 ?side2 A5.out).mono ?_); (case side1 => repeat (first | exact (ai HO430.out).2.2 | (with_reducible refine ak ?_ _) | (with_reducible refine al ?_ _) | (with_reducible refine am ?_))); (case side2 => exact (ai HO430.out).2.1); rintro e w' ⟨rfl, ⟨nd, rfl⟩⟩; refine ⟨_, rfl, ?_⟩) | ((with_reducible refine gate_callee (f := 88) rfl ?_); refine goesL_ (some 14) rfl rfl Try.func88 (by kernel_rfl) rfl #[.pointer (some ⟨g424, 0, none⟩), .int .i64 6] rfl (by (try simp only [List.map_toArray, List.map_cons, List.map_nil]); first | done | rfl | (simp only [List.length_drop, List.length_take]; rfl)) ?_; (with_reducible refine (spec_l00Src_pick.calls g424 t421 t431 t432 6 t434 t435 t436 w _ ?side1 ?side2 A6.out).mono ?_); (case side1 => repeat (first | (with_reducible first | exact HI424.out | apply IsS102.alloc | apply IsS102.drewN | apply IsS102.drew | apply IsS102.set_1 | apply IsS102.set_2) | exact HI424.out)); (case side2 => repeat (first | (with_reducible first | exact HB.out | apply ah | apply ae | apply ag | refine ao ?_ (IsS102.ge HI424.out)) | exact HB.out)); rintro e w29 ⟨rfl, hi, hb, hk⟩; refine ⟨_, rfl, ?_⟩; have n0_ := aa (an (bf (IsS102.apart (show IsS102 w _ g424 t421 t431 t432 from by repeat (first | (with_reducible first | exact HI424.out | apply IsS102.alloc | apply IsS102.drewN | apply IsS102.drew | apply IsS102.set_1 | apply IsS102.set_2) | exact HI424.out)) (by (with_reducible repeat (first | apply ab | apply ac | apply af)); exact HO430.out) (by decide)) hk (fun _ h => h.2)) (fun _ h => h.1)); have n1_ := aa (hb); have n2_ := aa (hi); clear HO430; clear HB; clear HI424; have HO430 := n0_; have HB := n1_; have HI424 := n2_; clear n0_ n1_ n2_; (try clear hb); (try clear hb2); (try clear hk); (try clear hi)))
   go_ret
   exact ⟨by first | rfl | (simp [errW_none, errW_some] <;> rfl) | (simp [*, errW_none, errW_some] <;> rfl), by repeat (first | (with_reducible first | exact HB.out | apply ah | apply ae | apply ag | refine ao ?_ (IsS102.ge HI424.out)) | exact HB.out)⟩

end Go.Proofs.Ytfajacoagaamlaa.QFnRepairs
