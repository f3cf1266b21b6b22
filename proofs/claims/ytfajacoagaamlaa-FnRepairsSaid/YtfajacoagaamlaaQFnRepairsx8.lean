/- Walks of the Go functions that the law FnRepairs reaches: written by a program of this session. -/
import Derived.Test.YtfajacoagaamlaaQFnRepairsx0
import Derived.Test.YtfajacoagaamlaaQFnRepairsx6
import Derived.Test.YtfajacoagaamlaaQFnRepairsx7
namespace Go.Proofs.Ytfajacoagaamlaa.QFnRepairs
open Go.RowKit Go.Proofs.YtfajacoagaamlaaW.PrintWords Go.Proofs.YtfajacoagaamlaaW.PrintLast Go.Proofs.YtfajacoagaamlaaW.PrintMore
attribute [local go_sem] max2_int min2_int max_two min_two max_three min_three max_four min_four   -- for this text's walks alone
open Go.Proofs.YtfajacoagaamlaaW.PrintWords renaming add_block → bg, below_alloc → ah, below_drew1 → ag, below_set → ao, below_size → ar, below_step → ay, keep_alloc → av, keep_drew → ax, keep_drewN → au, pw_below_drewN → ae
open Go.Proofs.YtfajacoagaamlaaW.PrintWords.Aside0 renaming mk → aa
open Go.Proofs.YtfajacoagaamlaaW.PrintWords.Kd renaming C_alloc → ak, C_drew → am, C_drewN → al, R_alloc → ab, R_base → az, R_below → aq, R_drew → af, R_drewN → ac, R_keep → bf, R_lower → bd, R_lt → bc, R_mono → an, R_new' → ba, R_reads' → ai, R_slice → ap
open Option renaming bind_eq_some_iff → bm
set_option linter.unusedVariables false
set_option linter.unusedSimpArgs false

/-! ### spec_l22DrawCopies: function 83 -/
mutual
def spec_l22DrawCopies.j0 : Nat → List Int → List (List Int) → Int → List Int → Int → Int → Option (List Int × (List (List Int)))
 | 0, _, _, _, _, _, _ => none
 | k + 1, x5, x6, x7, x348000, x348001, x348002 => spec_l22DrawCopies.l0 k x5 x6 x7 x7 x348000 x348001 x348002
def spec_l22DrawCopies.l0 : Nat → List Int → List (List Int) → Int → Int → List Int → Int → Int → Option (List Int × (List (List Int)))
 | 0, _, _, _, _, _, _, _ => none
 | k + 1, x5, x6, x7, x8, x348000, x348001, x348002 => if x8 > 0 then ((spec_l22New.f k x348000 x348001 x348002 (x5.length : Int)).bind fun bt365 => (if x6.length < 5864062014805 then (spec_l22DrawCopies.l0 k x5 (x6 ++ [bt365.1]) x7 (wrap64 (x8 - 1)) x348000 bt365.2.1 bt365.2.2) else (none))) else (if x7 > 0 then ((spec_l00Src_pick.f x348000 x348001 x348002 16).bind fun bt373 => (if bt373.1 = 0 then (if 0 < (x6.length : Int) then (if (rd_L1 x6 0).length < 17592186044416 then (some (x5, (x6.set (0 : Int).toNat ((rd_L1 x6 0) ++ [0])))) else (none)) else (none)) else (if bt373.1 = 1 then ((spec_l22Draw.f k x348000 bt373.2.1 bt373.2.2).bind fun bt381 => (if 0 < (x6.length : Int) then (some (x5, (x6.set (0 : Int).toNat bt381.1))) else (none))) else (some (x5, x6))))) else (some (x5, x6)))
end
def spec_l22DrawCopies.f (k : Nat) (l0 : List Int) : Option (List Int × (List (List Int))) := (spec_l00From.f l0).bind fun bt344 => ((spec_l22Draw.f k bt344.1 bt344.2.1 bt344.2.2).bind fun bt348 => ((some (([] : List (List Int)) : List (List Int))).bind fun y353 => ((spec_l00Src_pick.f bt344.1 bt348.2.1 bt348.2.2 5).bind fun bt356 => ((spec_l00Src_one.f bt344.1 bt356.2.1 bt356.2.2 20).bind fun bt359 => (if bt359.1 = true then ((spec_l00Src_pick.f bt344.1 bt359.2.1 bt359.2.2 2).bind fun bt362 => (spec_l22DrawCopies.j0 k bt348.1 y353 (wrap64 (8 + bt362.1)) bt344.1 bt362.2.1 bt362.2.2)) else (spec_l22DrawCopies.j0 k bt348.1 y353 bt356.1 bt344.1 bt359.2.1 bt359.2.2))))))
theorem spec_l22DrawCopies.mono_l : ∀ k, (∀ y0 y1 y2 y3 y4 y5, LeO (spec_l22DrawCopies.j0 k y0 y1 y2 y3 y4 y5) (spec_l22DrawCopies.j0 (k + 1) y0 y1 y2 y3 y4 y5)) ∧ (∀ y0 y1 y2 y3 y4 y5 y6, LeO (spec_l22DrawCopies.l0 k y0 y1 y2 y3 y4 y5 y6) (spec_l22DrawCopies.l0 (k + 1) y0 y1 y2 y3 y4 y5 y6))
 | 0 => ⟨fun _ _ _ _ _ _ r h => by simp [spec_l22DrawCopies.j0] at h, fun _ _ _ _ _ _ _ r h => by simp [spec_l22DrawCopies.l0] at h⟩
 | k + 1 => by
  obtain ⟨ih0, ih1⟩ := spec_l22DrawCopies.mono_l k
  refine ⟨?_, ?_⟩
  ·intro y0 y1 y2 y3 y4 y5
   unfold spec_l22DrawCopies.j0
   repeat' first
   | (with_reducible exact ih0 _ _ _ _ _ _)
   | (with_reducible exact ih1 _ _ _ _ _ _ _)
   | (with_reducible exact spec_l22Draw.mono _ _ _ _)
   | (with_reducible exact spec_l22New.mono _ _ _ _ _)
   | (with_reducible exact LeO.refl _)
   | (with_reducible exact LeO.none _)
   | (with_reducible refine LeO.ite ?_ ?_)
   | (with_reducible refine LeO.bind ?_ (fun _ => ?_))
   | exact ih0 _ _ _ _ _ _
   | exact ih1 _ _ _ _ _ _ _
   | exact spec_l22Draw.mono _ _ _ _
   | exact spec_l22New.mono _ _ _ _ _
   | exact LeO.none _
   | refine LeO.ite ?_ ?_
   | refine LeO.bind ?_ (fun _ => ?_)
  ·intro y0 y1 y2 y3 y4 y5 y6
   unfold spec_l22DrawCopies.l0
   repeat' first
   | (with_reducible exact ih0 _ _ _ _ _ _)
   | (with_reducible exact ih1 _ _ _ _ _ _ _)
   | (with_reducible exact spec_l22Draw.mono _ _ _ _)
   | (with_reducible exact spec_l22New.mono _ _ _ _ _)
   | (with_reducible exact LeO.refl _)
   | (with_reducible exact LeO.none _)
   | (with_reducible refine LeO.ite ?_ ?_)
   | (with_reducible refine LeO.bind ?_ (fun _ => ?_))
   | exact ih0 _ _ _ _ _ _
   | exact ih1 _ _ _ _ _ _ _
   | exact spec_l22Draw.mono _ _ _ _
   | exact spec_l22New.mono _ _ _ _ _
   | exact LeO.none _
   | refine LeO.ite ?_ ?_
   | refine LeO.bind ?_ (fun _ => ?_)
theorem spec_l22DrawCopies.mono : ∀ a0 k, LeO (spec_l22DrawCopies.f k a0) (spec_l22DrawCopies.f (k + 1) a0) := by
 intro a0 k
 obtain ⟨ih0, ih1⟩ := spec_l22DrawCopies.mono_l k
 unfold spec_l22DrawCopies.f
 repeat' first
   | (with_reducible exact ih0 _ _ _ _ _ _)
   | (with_reducible exact ih1 _ _ _ _ _ _ _)
   | (with_reducible exact spec_l22Draw.mono _ _ _ _)
   | (with_reducible exact spec_l22New.mono _ _ _ _ _)
   | (with_reducible exact LeO.refl _)
   | (with_reducible exact LeO.none _)
   | (with_reducible refine LeO.ite ?_ ?_)
   | (with_reducible refine LeO.bind ?_ (fun _ => ?_))
   | exact ih0 _ _ _ _ _ _
   | exact ih1 _ _ _ _ _ _ _
   | exact spec_l22Draw.mono _ _ _ _
   | exact spec_l22New.mono _ _ _ _ _
   | exact LeO.none _
   | refine LeO.ite ?_ ?_
   | refine LeO.bind ?_ (fun _ => ?_)
set_option maxHeartbeats 8000000 in
set_option maxRecDepth 100000 in
theorem spec_l22DrawCopies.calls (k : Nat) (A0 : Option Addr) (c0 : Nat) (l0 : List Int) (r1 : List Int) (r2 : List (List Int)) (w : World) (hr0 : Kd.C (Kd.int .u8) w A0 l0.length l0) (hc0 : l0.length ≤ c0) (h : spec_l22DrawCopies.f k l0 = some (r1, r2)) :
  Calls Try.prog 83 #[.slice A0 l0.length c0] w fun e w' => ∃ v0_ v1_ : Value, e = .returned (.tuple #[v0_, v1_]) ∧ Kd.R (Kd.int .i64) 2 w' w.heap.size (fun _ => True) v0_ r1 ∧ Kd.S (Kd.slice 2 (Kd.int .i64)) 22 w' w.heap.size (fun k_ => some k_ ≠ (v0_ : Value).ownBlock) v1_ r2 ∧ Below w.heap.size w w' := by
 have HR0 := aa hr0
 have HC0 := aa hc0
 clear hr0 hc0
 have HB := aa (Below.refl w.heap.size w)
 have H : ((spec_l00From.f l0).bind fun bt344 => ((spec_l22Draw.f k bt344.1 bt344.2.1 bt344.2.2).bind fun bt348 => ((some (([] : List (List Int)) : List (List Int))).bind fun y353 => ((spec_l00Src_pick.f bt344.1 bt348.2.1 bt348.2.2 5).bind fun bt356 => ((spec_l00Src_one.f bt344.1 bt356.2.1 bt356.2.2 20).bind fun bt359 => (if bt359.1 = true then ((spec_l00Src_pick.f bt344.1 bt359.2.1 bt359.2.2 2).bind fun bt362 => (spec_l22DrawCopies.j0 k bt348.1 y353 (wrap64 (8 + bt362.1)) bt344.1 bt362.2.1 bt362.2.2)) else (spec_l22DrawCopies.j0 k bt348.1 y353 bt356.1 bt344.1 bt359.2.1 bt359.2.2))))))) = some (r1, r2) := h
 clear h
 replace H := bm.mp H
 obtain ⟨⟨t344, t345, t346⟩, A20, H⟩ := H
 (try dsimp only at H)
 have A2 := aa A20
 clear A20
 replace H := bm.mp H
 obtain ⟨⟨t348, t351, t352⟩, A30, H⟩ := H
 (try dsimp only at H)
 have A3 := aa A30
 clear A30
 obtain ⟨y353, hy353⟩ : ∃ y_ : List (List Int), y_ = (([] : List (List Int))) := ⟨_, rfl⟩
 replace H : ((spec_l00Src_pick.f t344 t351 t352 5).bind fun bt356 => ((spec_l00Src_one.f t344 bt356.2.1 bt356.2.2 20).bind fun bt359 => (if bt359.1 = true then ((spec_l00Src_pick.f t344 bt359.2.1 bt359.2.2 2).bind fun bt362 => (spec_l22DrawCopies.j0 k t348 y353 (wrap64 (8 + bt362.1)) t344 bt362.2.1 bt362.2.2)) else (spec_l22DrawCopies.j0 k t348 y353 bt356.1 t344 bt359.2.1 bt359.2.2)))) = some (r1, r2) := by first | (rw [hy353]; with_reducible exact H) | (have H2_ := (Option.bind_some _ _).symm.trans H; rw [hy353]; with_reducible exact H2_) | (have H2_ := (Option.bind_some _ _).symm.trans H; with_reducible exact H2_) | with_reducible exact H | (rw [hy353]; exact H) | exact H
 have Ny353 := aa hy353
 clear hy353
 replace H := bm.mp H
 obtain ⟨⟨t356, t357, t358⟩, A40, H⟩ := H
 (try dsimp only at H)
 have A4 := aa A40
 clear A40
 replace H := bm.mp H
 obtain ⟨⟨t359, t360, t361⟩, A50, H⟩ := H
 (try dsimp only at H)
 have A5 := aa A50
 clear A50
 have HC6 := aa H
 clear H
 go_enter Try.func83, Try.ntmps83
 go_upto_if 17 with (first | ((with_reducible refine gate_callee (f := 85) rfl ?_); refine goesL_ (some 10) rfl rfl Try.func85 (by kernel_rfl) rfl #[.slice A0 l0.length c0] rfl (by (try simp only [List.map_toArray, List.map_cons, List.map_nil]); first | done | rfl | (simp only [List.length_drop, List.length_take]; rfl)) ?_; (with_reducible refine (spec_l00From.calls _ _ l0 t344 t345 t346 w _ ?side1 ?side2 ?side3 A2.out).mono ?_); (case side1 => repeat (first | (with_reducible first | exact HB.out | apply ah | apply ae | apply ag) | exact HB.out)); (case side2 => exact HR0.out); (case side3 => exact HC0.out); rintro e w7 ⟨g347, rfl, hi, hb, hb2⟩; refine ⟨_, rfl, ?_⟩; have n0_ := aa (hb); have n1_ := aa (hi); clear HB; have HB := n0_; have HI347 := n1_; clear n0_ n1_; (try clear hb); (try clear hb2); (try clear hk); (try clear hi)) | ((with_reducible refine gate_callee (f := 84) rfl ?_); refine goesL_ (some 12) rfl rfl Try.func84 (by kernel_rfl) rfl #[.pointer (some ⟨g347, 0, none⟩)] rfl (by (try simp only [List.map_toArray, List.map_cons, List.map_nil]); first | done | rfl | (simp only [List.length_drop, List.length_take]; rfl)) ?_; (with_reducible refine (spec_l22Draw.calls k g347 t344 t345 t346 t348 t351 t352 w _ ?side1 ?side2 A3.out).mono ?_); (case side1 => repeat (first | (with_reducible first | exact HI347.out | apply IsS102.alloc | apply IsS102.drewN | apply IsS102.drew | apply IsS102.set_1 | apply IsS102.set_2) | exact HI347.out)); (case side2 => repeat (first | (with_reducible first | exact HB.out | apply ah | apply ae | apply ag | refine ao ?_ (IsS102.ge HI347.out)) | exact HB.out)); rintro e w8 ⟨v349, rfl, ho0, hi, hb, hk⟩; refine ⟨_, rfl, ?_⟩; have n0_ := aa (bd ho0 (ar (by repeat (first | (with_reducible first | exact HB.out | apply ah | apply ae | apply ag | refine ao ?_ (IsS102.ge HI347.out)) | exact HB.out)))); have n1_ := aa (hb); have n2_ := aa (hi); clear HB; clear HI347; have HO350 := n0_; have HB := n1_; have HI347 := n2_; clear n0_ n1_ n2_; (try clear hb); (try clear hb2); (try clear hk); (try clear hi); (try clear ho0)) | ((with_reducible refine gate_dst (N := 13) rfl ?_); refine Kd.S_lit (Kd.slice 2 (Kd.int .i64)) _ 22 ?hg (N := 13) ?hd (xs := ([] : List (List Int))) (inner := []) (ok := fun _ => True) (okp := fun _ => True) ?hr ?hp (fun _ hk => hk) trivial (Below.refl _ _) (Nat.le_refl _) (by simp) ?_; (case hd => rfl); (case hg => rfl); (case hr => first | (go_simp; done) | (go_simp; rfl)); (case hp => exact (Reps.none _ _)); intro v354 w9 ho10 hb hg_ hnew_; clear hg_ hnew_; (first | rw [← Ny353.out] at ho10 | (simp only [Int.reduceToNat] at ho10; rw [← Ny353.out] at ho10)); have n0_ := aa (aq (by (with_reducible repeat (first | apply ab | apply ac | apply af)); exact HO350.out) hb); have n1_ := aa (Kd.S_lower (Kd.S_new' ho10 (bc (by (with_reducible repeat (first | apply ab | apply ac | apply af)); exact HO350.out))) (ar (by repeat (first | (with_reducible first | exact HB.out | apply ah | apply ae | apply ag | refine ao ?_ (IsS102.ge HI347.out)) | exact HB.out)))); have n2_ := aa (IsS102.below (by repeat (first | (with_reducible first | exact HI347.out | apply IsS102.alloc | apply IsS102.drewN | apply IsS102.drew | apply IsS102.set_1 | apply IsS102.set_2) | exact HI347.out)) hb); have n3_ := aa (ay (by repeat (first | (with_reducible first | exact HB.out | apply ah | apply ae | apply ag | refine ao ?_ (IsS102.ge HI347.out)) | exact HB.out)) hb); clear HO350; clear HI347; clear HB; have HO350 := n0_; have HO355 := n1_; have HI347 := n2_; have HB := n3_; clear n0_ n1_ n2_ n3_; clear hb ho10) | ((with_reducible refine gate_callee (f := 88) rfl ?_); refine goesL_ (some 15) rfl rfl Try.func88 (by kernel_rfl) rfl #[.pointer (some ⟨g347, 0, none⟩), .int .i64 5] rfl (by (try simp only [List.map_toArray, List.map_cons, List.map_nil]); first | done | rfl | (simp only [List.length_drop, List.length_take]; rfl)) ?_; (with_reducible refine (spec_l00Src_pick.calls g347 t344 t351 t352 5 t356 t357 t358 w _ ?side1 ?side2 A4.out).mono ?_); (case side1 => repeat (first | (with_reducible first | exact HI347.out | apply IsS102.alloc | apply IsS102.drewN | apply IsS102.drew | apply IsS102.set_1 | apply IsS102.set_2) | exact HI347.out)); (case side2 => repeat (first | (with_reducible first | exact HB.out | apply ah | apply ae | apply ag | refine ao ?_ (IsS102.ge HI347.out)) | exact HB.out)); rintro e w11 ⟨rfl, hi, hb, hk⟩; refine ⟨_, rfl, ?_⟩; have n0_ := aa (an (bf (IsS102.apart (show IsS102 w _ g347 t344 t351 t352 from by repeat (first | (with_reducible first | exact HI347.out | apply IsS102.alloc | apply IsS102.drewN | apply IsS102.drew | apply IsS102.set_1 | apply IsS102.set_2) | exact HI347.out)) (by (with_reducible repeat (first | apply ab | apply ac | apply af)); exact HO350.out) (by decide)) hk (fun _ h => h.2)) (fun _ h => h.1)); have n1_ := aa (Kd.S_mono (Kd.S_keep (IsS102.apartS (show IsS102 w _ g347 t344 t351 t352 from by repeat (first | (with_reducible first | exact HI347.out | apply IsS102.alloc | apply IsS102.drewN | apply IsS102.drew | apply IsS102.set_1 | apply IsS102.set_2) | exact HI347.out)) (by (with_reducible repeat (first | apply Kd.S_alloc | apply Kd.S_drewN | apply Kd.S_drew)); exact HO355.out) (by decide)) hk (fun _ h => h.2)) (fun _ h => h.1)); have n2_ := aa (hb); have n3_ := aa (hi); clear HO350; clear HO355; clear HB; clear HI347; have HO350 := n0_; have HO355 := n1_; have HB := n2_; have HI347 := n3_; clear n0_ n1_ n2_ n3_; (try clear hb); (try clear hb2); (try clear hk); (try clear hi)) | ((with_reducible refine gate_callee (f := 111) rfl ?_); refine goesL_ (some 17) rfl rfl Try.func111 (by kernel_rfl) rfl #[.pointer (some ⟨g347, 0, none⟩), .int .i64 20] rfl (by (try simp only [List.map_toArray, List.map_cons, List.map_nil]); first | done | rfl | (simp only [List.length_drop, List.length_take]; rfl)) ?_; (with_reducible refine (spec_l00Src_one.calls g347 t344 t357 t358 20 t359 t360 t361 w _ ?side1 ?side2 A5.out).mono ?_); (case side1 => repeat (first | (with_reducible first | exact HI347.out | apply IsS102.alloc | apply IsS102.drewN | apply IsS102.drew | apply IsS102.set_1 | apply IsS102.set_2) | exact HI347.out)); (case side2 => repeat (first | (with_reducible first | exact HB.out | apply ah | apply ae | apply ag | refine ao ?_ (IsS102.ge HI347.out)) | exact HB.out)); rintro e w12 ⟨rfl, hi, hb, hk⟩; refine ⟨_, rfl, ?_⟩; have n0_ := aa (an (bf (IsS102.apart (show IsS102 w _ g347 t344 t357 t358 from by repeat (first | (with_reducible first | exact HI347.out | apply IsS102.alloc | apply IsS102.drewN | apply IsS102.drew | apply IsS102.set_1 | apply IsS102.set_2) | exact HI347.out)) (by (with_reducible repeat (first | apply ab | apply ac | apply af)); exact HO350.out) (by decide)) hk (fun _ h => h.2)) (fun _ h => h.1)); have n1_ := aa (Kd.S_mono (Kd.S_keep (IsS102.apartS (show IsS102 w _ g347 t344 t357 t358 from by repeat (first | (with_reducible first | exact HI347.out | apply IsS102.alloc | apply IsS102.drewN | apply IsS102.drew | apply IsS102.set_1 | apply IsS102.set_2) | exact HI347.out)) (by (with_reducible repeat (first | apply Kd.S_alloc | apply Kd.S_drewN | apply Kd.S_drew)); exact HO355.out) (by decide)) hk (fun _ h => h.2)) (fun _ h => h.1)); have n2_ := aa (hb); have n3_ := aa (hi); clear HO350; clear HO355; clear HB; clear HI347; have HO350 := n0_; have HO355 := n1_; have HB := n2_; have HI347 := n3_; clear n0_ n1_ n2_ n3_; (try clear hb); (try clear hb2); (try clear hk); (try clear hi)))
 (try simp only [Act.put, List.setIfInBounds_toArray, List.set_cons_zero, List.set_cons_succ])
 go_cut [7] (fun v7 wc => ∃ (kq : Nat) (x7_5 : Int) (x348001_5 : Int) (x348002_5 : Int), v7 = .int .i64 x7_5 ∧ Aside0 (spec_l22DrawCopies.j0 kq t348 y353 x7_5 t344 x348001_5 x348002_5 = some (r1, r2)) ∧ Aside0 (kq ≤ k) ∧ Aside0 (Kd.R (Kd.int .i64) 2 wc w.heap.size (fun _ => True) v349 t348) ∧ Aside0 (Kd.S (Kd.slice 2 (Kd.int .i64)) 22 wc w.heap.size (fun k_ => some k_ ≠ (v349 : Value).ownBlock) v354 y353) ∧ Aside0 (IsS102 w wc g347 t344 x348001_5 x348002_5) ∧ Aside0 (Below w.heap.size w wc))
 case first =>
  have H := HC6.out
  clear HC6
  by_cases c13 : t359 = true
  ·subst c13
   have H1 := H; rw [if_pos rfl] at H1
   clear H
   have H := H1
   clear H1
   replace H := bm.mp H
   obtain ⟨⟨t362, t363, t364⟩, A140, H⟩ := H
   replace H : (spec_l22DrawCopies.j0 k t348 y353 (wrap64 (8 + t362)) t344 t363 t364) = some (r1, r2) := H
   have A14 := aa A140
   clear A140
   have H' := aa H
   clear H
   go_wp2_with (first | ((with_reducible refine gate_callee (f := 88) rfl ?_); refine goesL_ (some 19) rfl rfl Try.func88 (by kernel_rfl) rfl #[.pointer (some ⟨g347, 0, none⟩), .int .i64 2] rfl (by (try simp only [List.map_toArray, List.map_cons, List.map_nil]); first | done | rfl | (simp only [List.length_drop, List.length_take]; rfl)) ?_; (with_reducible refine (spec_l00Src_pick.calls g347 t344 t360 t361 2 t362 t363 t364 w _ ?side1 ?side2 A14.out).mono ?_); (case side1 => repeat (first | (with_reducible first | exact HI347.out | apply IsS102.alloc | apply IsS102.drewN | apply IsS102.drew | apply IsS102.set_1 | apply IsS102.set_2) | exact HI347.out)); (case side2 => repeat (first | (with_reducible first | exact HB.out | apply ah | apply ae | apply ag | refine ao ?_ (IsS102.ge HI347.out)) | exact HB.out)); rintro e w15 ⟨rfl, hi, hb, hk⟩; refine ⟨_, rfl, ?_⟩; have n0_ := aa (an (bf (IsS102.apart (show IsS102 w _ g347 t344 t360 t361 from by repeat (first | (with_reducible first | exact HI347.out | apply IsS102.alloc | apply IsS102.drewN | apply IsS102.drew | apply IsS102.set_1 | apply IsS102.set_2) | exact HI347.out)) (by (with_reducible repeat (first | apply ab | apply ac | apply af)); exact HO350.out) (by decide)) hk (fun _ h => h.2)) (fun _ h => h.1)); have n1_ := aa (Kd.S_mono (Kd.S_keep (IsS102.apartS (show IsS102 w _ g347 t344 t360 t361 from by repeat (first | (with_reducible first | exact HI347.out | apply IsS102.alloc | apply IsS102.drewN | apply IsS102.drew | apply IsS102.set_1 | apply IsS102.set_2) | exact HI347.out)) (by (with_reducible repeat (first | apply Kd.S_alloc | apply Kd.S_drewN | apply Kd.S_drew)); exact HO355.out) (by decide)) hk (fun _ h => h.2)) (fun _ h => h.1)); have n2_ := aa (hb); have n3_ := aa (hi); clear HO350; clear HO355; clear HB; clear HI347; have HO350 := n0_; have HO355 := n1_; have HB := n2_; have HI347 := n3_; clear n0_ n1_ n2_ n3_; (try clear hb); (try clear hb2); (try clear hk); (try clear hi)))
   go_meet
   case rel => exact ⟨_, (wrap64 (8 + t362)), (t363), (t364), (by first | rfl | (simp; done) | (simp [*]; done)), H', ⟨by first | omega | exact Nat.le_refl _⟩, ⟨by (with_reducible repeat (first | apply ab | apply ac | apply af)); exact HO350.out⟩, ⟨by (with_reducible repeat (first | apply Kd.S_alloc | apply Kd.S_drewN | apply Kd.S_drew)); exact Kd.S_mono HO355.out (fun _ hk => hk.2)⟩, ⟨by repeat (first | (with_reducible first | exact HI347.out | apply IsS102.alloc | apply IsS102.drewN | apply IsS102.drew | apply IsS102.set_1 | apply IsS102.set_2) | exact HI347.out)⟩, ⟨by repeat (first | (with_reducible first | exact HB.out | apply ah | apply ae | apply ag | refine ao ?_ (IsS102.ge HI347.out)) | exact HB.out)⟩⟩
  ·replace c13 := Bool.eq_false_iff.mpr c13
   subst c13
   have H1 := H; rw [if_neg (show ¬ (false = true) by decide)] at H1
   clear H
   have H := H1
   clear H1
   have H' := aa H
   clear H
   go_wp2
   go_meet
   case rel => exact ⟨_, (t356), (t360), (t361), (by first | rfl | (simp; done) | (simp [*]; done)), H', ⟨by first | omega | exact Nat.le_refl _⟩, ⟨by (with_reducible repeat (first | apply ab | apply ac | apply af)); exact HO350.out⟩, ⟨by (with_reducible repeat (first | apply Kd.S_alloc | apply Kd.S_drewN | apply Kd.S_drew)); exact Kd.S_mono HO355.out (fun _ hk => hk.2)⟩, ⟨by repeat (first | (with_reducible first | exact HI347.out | apply IsS102.alloc | apply IsS102.drewN | apply IsS102.drew | apply IsS102.set_1 | apply IsS102.set_2) | exact HI347.out)⟩, ⟨by repeat (first | (with_reducible first | exact HB.out | apply ah | apply ae | apply ag | refine ao ?_ (IsS102.ge HI347.out)) | exact HB.out)⟩⟩
 case rest =>
  clear HC6
  try clear c1
  try clear p2
  try clear p6
  try clear c8
  try clear c11
  try clear c13
  obtain ⟨kq, x7_5, x348001_5, x348002_5, rfl, HA, HJ5, HO_5, HO_6, HI347, HB⟩ := hcut
  cases kq with
  | zero => exact absurd HA.out (by simp [spec_l22DrawCopies.j0])
  | succ kj5 =>
   have H := HA.out
   clear HA
   simp only [spec_l22DrawCopies.j0] at H
   have H' := aa H
   clear H
   go_wp2
   go_loopg [6, 8] kj5 (fun kq v6 v8 w' => ∃ (x6_2 : List (List Int)) (x8_2 : Int) (x348001_2 : Int) (x348002_2 : Int), v8 = .int .i64 x8_2 ∧ Aside0 (spec_l22DrawCopies.l0 kq t348 x6_2 x7_5 x8_2 t344 x348001_2 x348002_2 = some (r1, r2)) ∧ Aside0 (kq ≤ kj5) ∧ Aside0 (Kd.R (Kd.int .i64) 2 w' w.heap.size (fun _ => True) v349 t348) ∧ Aside0 (Kd.S (Kd.slice 2 (Kd.int .i64)) 22 w' w.heap.size (fun k_ => some k_ ≠ (v349 : Value).ownBlock) v6 x6_2) ∧ Aside0 (IsS102 w w' g347 t344 x348001_2 x348002_2) ∧ Aside0 (Below w.heap.size w w'))
   case atStart => exact ⟨(y353), (x7_5), (x348001_5), (x348002_5), (by first | rfl | (simp; done) | (simp [*]; done)), H', ⟨Nat.le_refl _⟩, ⟨by (with_reducible repeat (first | apply ab | apply ac | apply af)); exact HO_5.out⟩, ⟨by (with_reducible repeat (first | apply Kd.S_alloc | apply Kd.S_drewN | apply Kd.S_drew)); exact HO_6.out⟩, ⟨by repeat (first | (with_reducible first | exact HI347.out | apply IsS102.alloc | apply IsS102.drewN | apply IsS102.drew | apply IsS102.set_1 | apply IsS102.set_2) | exact HI347.out)⟩, ⟨by repeat (first | (with_reducible first | exact HB.out | apply ah | apply ae | apply ag | refine ao ?_ (IsS102.ge HI347.out)) | exact HB.out)⟩⟩
   case round =>
    clear H'
    try clear c1
    try clear p2
    try clear p6
    try clear c8
    try clear c11
    try clear c13
    try clear p2
    try clear p6
    obtain ⟨x6_2, x8_2, x348001_2, x348002_2, rfl, HA, HK2, HO_5, HO_6, HI347, HB⟩ := hrel
    cases gk with
    | zero => exact absurd HA.out (by simp [spec_l22DrawCopies.l0])
    | succ k2 =>
     have H := HA.out
     clear HA
     simp only [spec_l22DrawCopies.l0] at H
     by_cases c16 : x8_2 > 0
     ·rw [if_pos c16] at H
      have c16b0 : decide (0 < x8_2) = true := decide_eq_true c16
      clear c16
      replace H := bm.mp H
      obtain ⟨⟨t365, t368, t369⟩, A170, H⟩ := H
      (try dsimp only at H)
      have A17 := aa A170
      clear A170
      by_cases c18 : x6_2.length < 5864062014805
      ·rw [if_pos c18] at H
       have LMc18 := aa c18
       clear c18
       obtain ⟨y370, hy370⟩ : ∃ y_ : List (List Int), y_ = (x6_2 ++ [t365]) := ⟨_, rfl⟩
       replace H : (spec_l22DrawCopies.l0 k2 t348 y370 x7_5 (wrap64 (x8_2 - 1)) t344 t368 t369) = some (r1, r2) := by first | (rw [hy370]; with_reducible exact H) | (have H2_ := (Option.bind_some _ _).symm.trans H; rw [hy370]; with_reducible exact H2_) | (have H2_ := (Option.bind_some _ _).symm.trans H; with_reducible exact H2_) | with_reducible exact H | (rw [hy370]; exact H) | exact H
       have Ny370 := aa hy370
       clear hy370
       have H' := aa H
       clear H
       obtain ⟨Ao19, co19, eo19⟩ := ap HO_5.out
       subst eo19
       go_wp2_with (first | ((with_reducible refine gate_callee (f := 87) rfl ?_); refine goesL_ (some 30) rfl rfl Try.func87 (by kernel_rfl) rfl #[.pointer (some ⟨g347, 0, none⟩), .int .i64 (t348.length : Int)] rfl (by (try simp only [List.map_toArray, List.map_cons, List.map_nil]); first | done | rfl | (simp only [List.length_drop, List.length_take]; rfl)) ?_; (with_reducible refine (spec_l22New.calls k2 g347 t344 x348001_2 x348002_2 (t348.length : Int) t365 t368 t369 w _ ?side1 ?side2 A17.out).mono ?_); (case side1 => repeat (first | (with_reducible first | exact HI347.out | apply IsS102.alloc | apply IsS102.drewN | apply IsS102.drew | apply IsS102.set_1 | apply IsS102.set_2) | exact HI347.out)); (case side2 => repeat (first | (with_reducible first | exact HB.out | apply ah | apply ae | apply ag | refine ao ?_ (IsS102.ge HI347.out)) | exact HB.out)); rintro e w20 ⟨v366, rfl, ho0, hi, hb, hk⟩; refine ⟨_, rfl, ?_⟩; have n0_ := aa (an (Kd.R_told (Kd.R_oldK (IsS102.apart (show IsS102 w _ g347 t344 x348001_2 x348002_2 from by repeat (first | (with_reducible first | exact HI347.out | apply IsS102.alloc | apply IsS102.drewN | apply IsS102.drew | apply IsS102.set_1 | apply IsS102.set_2) | exact HI347.out)) (by (with_reducible repeat (first | apply ab | apply ac | apply af)); exact HO_5.out) (by decide)) hk) (az ho0)) (fun _ h_ => h_.1)); have n1_ := aa (Kd.S_mono (Kd.S_told (Kd.S_oldK (IsS102.apartS (show IsS102 w _ g347 t344 x348001_2 x348002_2 from by repeat (first | (with_reducible first | exact HI347.out | apply IsS102.alloc | apply IsS102.drewN | apply IsS102.drew | apply IsS102.set_1 | apply IsS102.set_2) | exact HI347.out)) (by (with_reducible repeat (first | apply Kd.S_alloc | apply Kd.S_drewN | apply Kd.S_drew)); exact HO_6.out) (by decide)) hk) (az ho0)) (fun _ h_ => h_.1)); have n2_ := aa (bd (ba ho0 (bc (by (with_reducible repeat (first | apply ab | apply ac | apply af)); exact HO_5.out))) (ar (by repeat (first | (with_reducible first | exact HB.out | apply ah | apply ae | apply ag | refine ao ?_ (IsS102.ge HI347.out)) | exact HB.out)))); have n3_ := aa (hb); have n4_ := aa (hi); clear HO_5; clear HO_6; clear HB; clear HI347; have HO_5 := n0_; have HO_6 := n1_; have HO367 := n2_; have HB := n3_; have HI347 := n4_; clear n0_ n1_ n2_ n3_ n4_; (try clear hb); (try clear hb2); (try clear hk); (try clear hi); (try clear ho0); obtain ⟨Ao22, co22, eo22⟩ := ap HO367.out; subst eo22) | ((with_reducible refine gate_builtin (b := .append) (xs := #[.tmp 26, .tmp 31]) rfl ?_); at_builtin; refine Kd.S_append (Kd.slice 2 (Kd.int .i64)) (w0 := w) w.heap.size rfl (.tmp 26) (.tmp 31) 46 22 (.slice none 0 0) 24 rfl Try.underlying46 info22 rfl (by decide) (by omega) u6 x6_2 t365 [.slice Ao22 t365.length co22] (fun k_ => some k_ ≠ (.slice Ao19 t348.length co19 : Value).ownBlock) (fun k_ => some k_ = (.slice Ao22 t365.length co22 : Value).ownBlock) rfl rfl ?aP (fun k_ hk_ => ((an (ok' := fun k_ => ((fun k_ => some k_ ≠ (.slice Ao19 t348.length co19 : Value).ownBlock)) k_ ∧ some k_ ≠ (u6 : Value).ownBlock) (Kd.R_apart' (HO367.out) (Kd.S_typed HO_6.out) (by decide)) (fun k_ hk => ⟨hk.1.2, hk.2⟩))).1 k_ hk_.symm) ?aF ?aO ?aB ?aS ?aL ?_; (case aP => exact Kd.M_row (an (Kd.R_tight rfl (an (ok' := fun k_ => ((fun k_ => some k_ ≠ (.slice Ao19 t348.length co19 : Value).ownBlock)) k_ ∧ some k_ ≠ (u6 : Value).ownBlock) (Kd.R_apart' (HO367.out) (Kd.S_typed HO_6.out) (by decide)) (fun k_ hk => ⟨hk.1.2, hk.2⟩))) (fun _ h_ => h_))); (case aB => exact (by repeat (first | (with_reducible first | exact HB.out | apply ah | apply ae | apply ag | refine ao ?_ (IsS102.ge HI347.out)) | exact HB.out))); (case aF => exact (fun k_ hk => Kd.fresh' (bc (by (with_reducible repeat (first | apply ab | apply ac | apply af)); exact HO_5.out)) k_ hk)); (case aO => exact (by (with_reducible repeat (first | apply Kd.S_alloc | apply Kd.S_drewN | apply Kd.S_drew)); exact Kd.S_mono HO_6.out (fun k_ hk => ⟨hk.1, fun e_ => hk.2 e_⟩))); (case aS => exact (ar (by repeat (first | (with_reducible first | exact HB.out | apply ah | apply ae | apply ag | refine ao ?_ (IsS102.ge HI347.out)) | exact HB.out)))); (case aL => have := LMc18.out; omega); intro v371 w21 ho hb hg hat; rw [← Ny370.out] at ho; have n0_ := aa (Kd.R_over' (by (with_reducible repeat (first | apply ab | apply ac | apply af)); exact HO_5.out) (Kd.S_typed (by (with_reducible repeat (first | apply Kd.S_alloc | apply Kd.S_drewN | apply Kd.S_drew)); exact HO_6.out)) (by decide) hg); have n1_ := aa (IsS102.grown (by repeat (first | (with_reducible first | exact HI347.out | apply IsS102.alloc | apply IsS102.drewN | apply IsS102.drew | apply IsS102.set_1 | apply IsS102.set_2) | exact HI347.out)) hg (IsS102.own_neS HI347.out HO_6.out (by decide))); have n2_ := aa (hb); have n3_ := aa (ho); clear HO_5; clear HI347; clear HB; clear HO_6; clear HO367; have HO_5 := n0_; have HI347 := n1_; have HB := n2_; have HO372 := n3_; clear n0_ n1_ n2_ n3_; clear ho hb hg hat))
       go_roundg k2
       case measure => have := HJ5.out; have := HK2.out; omega
       case rel => exact ⟨(y370), (wrap64 (x8_2 - 1)), (t368), (t369), (by first | rfl | (simp; done) | (simp [*]; done)), H', ⟨by have := HJ5.out; have := HK2.out; omega⟩, ⟨by (with_reducible repeat (first | apply ab | apply ac | apply af)); exact an HO_5.out (fun _ hk => trivial)⟩, ⟨by (with_reducible repeat (first | apply Kd.S_alloc | apply Kd.S_drewN | apply Kd.S_drew)); exact HO372.out⟩, ⟨by repeat (first | (with_reducible first | exact HI347.out | apply IsS102.alloc | apply IsS102.drewN | apply IsS102.drew | apply IsS102.set_1 | apply IsS102.set_2) | exact HI347.out)⟩, ⟨by repeat (first | (with_reducible first | exact HB.out | apply ah | apply ae | apply ag | refine ao ?_ (IsS102.ge HI347.out)) | exact HB.out)⟩⟩
      ·rw [if_neg c18] at H
       exact absurd H (by simp)
     ·rw [if_neg c16] at H
      have c16b0 : decide (0 < x8_2) = false := decide_eq_false c16
      clear c16
      by_cases c23 : x7_5 > 0
      ·rw [if_pos c23] at H
       have c23b0 : decide (0 < x7_5) = true := decide_eq_true c23
       clear c23
       replace H := bm.mp H
       obtain ⟨⟨t373, t374, t375⟩, A240, H⟩ := H
       (try dsimp only at H)
       have A24 := aa A240
       clear A240
       by_cases c25 : t373 = 0
       ·rw [if_pos c25] at H
        have c25b0 : (t373 == 0) = true := beq_iff_eq.mpr c25
        have c25b1 : (t373 != 0) = false := bne_eq_false_iff_eq.mpr c25
        clear c25
        by_cases c26 : 0 < (x6_2.length : Int)
        ·rw [if_pos c26] at H
         have c26b0 : decide (0 < (x6_2.length : Int)) = true := decide_eq_true c26
         have c26b1 : decide (0 < x6_2.length) = true := decide_eq_true (by omega)
         clear c26
         by_cases c27 : (rd_L1 x6_2 0).length < 17592186044416
         ·rw [if_pos c27] at H
          have LMc27 := aa c27
          clear c27
          obtain ⟨y377, hy377⟩ : ∃ y_ : List Int, y_ = ((rd_L1 x6_2 0) ++ [0]) := ⟨_, rfl⟩
          replace H : (some (t348, (x6_2.set (0 : Int).toNat y377))) = some (r1, r2) := by first | (rw [hy377]; with_reducible exact H) | (have H2_ := (Option.bind_some _ _).symm.trans H; rw [hy377]; with_reducible exact H2_) | (have H2_ := (Option.bind_some _ _).symm.trans H; with_reducible exact H2_) | with_reducible exact H | (rw [hy377]; exact H) | exact H
          have Ny377 := aa hy377
          clear hy377
          obtain ⟨y380, hy380⟩ : ∃ y_ : List (List Int), y_ = (x6_2.set (0 : Int).toNat y377) := ⟨_, rfl⟩
          replace H : (some (t348, y380)) = some (r1, r2) := by first | (rw [hy380]; with_reducible exact H) | (have H2_ := (Option.bind_some _ _).symm.trans H; rw [hy380]; with_reducible exact H2_) | (have H2_ := (Option.bind_some _ _).symm.trans H; with_reducible exact H2_) | with_reducible exact H | (rw [hy380]; exact H) | exact H
          have Ny380 := aa hy380
          clear hy380
          simp only [Option.some.injEq, Prod.mk.injEq] at H
          obtain ⟨rfl, rfl⟩ := H
          go_wp2_with (first | ((with_reducible refine gate_callee (f := 88) rfl ?_); refine goesL_ (some 36) rfl rfl Try.func88 (by kernel_rfl) rfl #[.pointer (some ⟨g347, 0, none⟩), .int .i64 16] rfl (by (try simp only [List.map_toArray, List.map_cons, List.map_nil]); first | done | rfl | (simp only [List.length_drop, List.length_take]; rfl)) ?_; (with_reducible refine (spec_l00Src_pick.calls g347 t344 x348001_2 x348002_2 16 t373 t374 t375 w _ ?side1 ?side2 A24.out).mono ?_); (case side1 => repeat (first | (with_reducible first | exact HI347.out | apply IsS102.alloc | apply IsS102.drewN | apply IsS102.drew | apply IsS102.set_1 | apply IsS102.set_2) | exact HI347.out)); (case side2 => repeat (first | (with_reducible first | exact HB.out | apply ah | apply ae | apply ag | refine ao ?_ (IsS102.ge HI347.out)) | exact HB.out)); rintro e w29 ⟨rfl, hi, hb, hk⟩; refine ⟨_, rfl, ?_⟩; have n0_ := aa (an (bf (IsS102.apart (show IsS102 w _ g347 t344 x348001_2 x348002_2 from by repeat (first | (with_reducible first | exact HI347.out | apply IsS102.alloc | apply IsS102.drewN | apply IsS102.drew | apply IsS102.set_1 | apply IsS102.set_2) | exact HI347.out)) (by (with_reducible repeat (first | apply ab | apply ac | apply af)); exact HO_5.out) (by decide)) hk (fun _ h => h.2)) (fun _ h => h.1)); have n1_ := aa (Kd.S_mono (Kd.S_keep (IsS102.apartS (show IsS102 w _ g347 t344 x348001_2 x348002_2 from by repeat (first | (with_reducible first | exact HI347.out | apply IsS102.alloc | apply IsS102.drewN | apply IsS102.drew | apply IsS102.set_1 | apply IsS102.set_2) | exact HI347.out)) (by (with_reducible repeat (first | apply Kd.S_alloc | apply Kd.S_drewN | apply Kd.S_drew)); exact HO_6.out) (by decide)) hk (fun _ h => h.2)) (fun _ h => h.1)); have n2_ := aa (hb); have n3_ := aa (hi); clear HO_5; clear HO_6; clear HB; clear HI347; have HO_5 := n0_; have HO_6 := n1_; have HB := n2_; have HI347 := n3_; clear n0_ n1_ n2_ n3_; (try clear hb); (try clear hb2); (try clear hk); (try clear hi); obtain ⟨Ao30, co30, eo30⟩ := Kd.S_slice HO_6.out; subst eo30; have p376 : 0 ≤ (0 : Int) := (by omega); have q376 : 0 < (x6_2.length : Int) := of_decide_eq_true (by first | (with_reducible assumption) | assumption); obtain ⟨ad376, A376_0, c376_0, e376, hx376_0, hl376_0, hi376_0⟩ := at_L1 (Kd.S_reads' HO_6.out).2.2 0 p376 q376; cases e376; obtain ⟨ce376, hce376, hMe376, hcc376⟩ := Kd.S_get HO_6.out [] 0 p376 (by first | exact q376 | exact of_decide_eq_true (by first | (with_reducible assumption) | assumption) | (have e_ := (Kd.S_reads' HO_6.out).1; omega)); obtain ⟨ve376_0, rfl, ge376_0⟩ := hMe376; have hv376_0 := hcc376 0 _ rfl; rw [Nat.add_zero, show ((Kd.slice 2 (Kd.int .i64))).sz = 1 from rfl, Nat.mul_one] at hv376_0; replace hv376_0 := Option.some.inj (hv376_0.symm.trans hx376_0); rw [hv376_0] at ge376_0; have HL376_0 := aa (show Kd.R (Kd.int .i64) 2 _ _ _ _ (rd_L1 x6_2 0) from ge376_0); clear hv376_0 ge376_0; have HX376_0 := aa hx376_0; clear hcc376 hce376; have qi376 : (0 < x6_2.length) = True := eq_true (by omega); (try rw [show ((0 : Int)).toNat = 0 from rfl] at hx376_0); (try rw [Addr.add_zero'] at hx376_0); have HR376_0 := aa hi376_0; have HC376_0 := aa hl376_0; clear hi376_0 hl376_0; replace p376 := eq_true p376; replace q376 := eq_true q376; obtain ⟨go31, co31, eo31, gb31, gl31, cl31, HG31⟩ := Kd.S_form HO_6.out (by have h_ : (0 : Int) < ((x6_2.length : Int) : Int) := of_decide_eq_true (by first | (with_reducible assumption) | assumption); have h2_ : 0 ≤ (0 : Int) := (by omega); omega); (first | cases eo31 | (injection eo31 with ea_ en_ ec_; (first | subst ea_ | (injection ea_ with ea_; subst ea_)); subst ec_; clear en_)); have GB31 := aa gb31; have GG31 := aa HG31; clear gb31 gl31 HG31; (first | simp only [add_plain] at hx376_0 | skip); obtain ⟨oki31, ce31, hcl31, hM31, hcc31, _, _, hH31⟩ := Kd.S_elem HO_6.out [] (0 : Int) (by omega) (by have h_ : (0 : Int) < ((x6_2.length : Int) : Int) := of_decide_eq_true (by first | (with_reducible assumption) | assumption); first | exact h_ | (have e_ := (Kd.S_reads' HO_6.out).1; omega) | simpa using h_); obtain ⟨ve31_0, rfl, ge31_0⟩ := hM31; have hv31 := hcc31 0 _ rfl; have hX31 := HX376_0.out; (try simp only [add_plain] at hX31); (try simp only [Nat.add_zero] at hv31); (try rw [show ((Kd.slice 2 (Kd.int .i64))).sz = 1 from rfl, Nat.mul_one] at hv31); replace hv31 := Option.some.inj (hv31.symm.trans hX31); subst hv31; clear hX31 hcc31 hcl31; have UU31 := aa (show Kd.R (Kd.int .i64) 2 _ w.heap.size oki31 (.slice A376_0 (rd_L1 x6_2 0).length c376_0) (rd_L1 x6_2 0) from ge31_0); have HH31 := aa hH31; have HN31 := aa (Kd.S_reads' HO_6.out).1; clear hH31 ge31_0) | ((with_reducible refine gate_builtin (b := .append) (xs := #[.tmp 42, .tmp 43]) rfl ?_); at_builtin; refine Kd.R_append (Kd.int .i64) (w0 := w) w.heap.size rfl (.tmp 42) (.tmp 43) 22 2 (.int .i64 0) 8 rfl Try.underlying22 info2 rfl (by decide) (by omega) (.slice A376_0 (rd_L1 x6_2 0).length c376_0) (rd_L1 x6_2 0) 0 [.int .i64 0] (fun k_ => oki31 k_ ∨ ((fun k_ => some k_ ≠ (v349 : Value).ownBlock)) k_ ∧ w29.heap.size ≤ k_) (fun _ => False) rfl rfl ?aP (fun _ hk => hk.elim) ?aF ?aO ?aB ?aS ?aL ?_; (case aP => exact rfl); (case aB => exact (by repeat (first | (with_reducible first | exact HB.out | apply ah | apply ae | apply ag | refine ao ?_ (IsS102.ge HI347.out)) | exact HB.out))); (case aF => exact (fun k_ hk => .inr ⟨Kd.fresh' (bc (by (with_reducible repeat (first | apply ab | apply ac | apply af)); exact HO_5.out)) k_ hk, hk⟩)); (case aO => exact (by (with_reducible repeat (first | apply ab | apply ac | apply af)); exact an UU31.out (fun _ hk => .inl hk))); (case aS => exact (ar (by repeat (first | (with_reducible first | exact HB.out | apply ah | apply ae | apply ag | refine ao ?_ (IsS102.ge HI347.out)) | exact HB.out)))); (case aL => have := LMc27.out; omega); intro v378 w32 ho hb hg hat; rw [← Ny377.out] at ho; have n0_ := aa (Kd.R_grown2 (by (with_reducible repeat (first | apply ab | apply ac | apply af)); exact HO_5.out) rfl hg (fun k_ e_ => (HL376_0.out.1 k_ e_).1)); have n1_ := aa (IsS102.grown (by repeat (first | (with_reducible first | exact HI347.out | apply IsS102.alloc | apply IsS102.drewN | apply IsS102.drew | apply IsS102.set_1 | apply IsS102.set_2) | exact HI347.out)) hg (IsS102.own_ne HI347.out HL376_0.out (by decide))); have n2_ := aa (hb); have n3_ := aa (Kd.H_grown (Kd.H_widen (by repeat (first | exact HH31.out | refine Kd.H_alloc ?_ _ | refine Kd.H_drewN ?_ _ | refine Kd.H_drew ?_))) hg (fun k_ e_ => .inl (UU31.out.1 k_ e_))); have n4_ := aa (ho); clear HO_5; clear HI347; clear HB; clear HH31; clear HO_6; clear UU31; clear HL376_0; have HO_5 := n0_; have HI347 := n1_; have HB := n2_; have HH31 := n3_; have HO379 := n4_; clear n0_ n1_ n2_ n3_ n4_; clear ho hb hg hat; have p28 : 0 ≤ (0 : Int) := (by omega); have q28 : (0 : Int) < ((x6_2.length : Int) : Int) := of_decide_eq_true (by first | (with_reducible assumption) | assumption); replace p28 := eq_true p28; replace q28 := eq_true q28; obtain ⟨Ao35, co35, eo35⟩ := ap HO379.out; subst eo35; obtain ⟨_, _, hraw33, _, _, hcc33, _⟩ := Kd.H_raw HH31.out (by omega) (by have h_ : (0 : Int) < ((x6_2.length : Int) : Int) := of_decide_eq_true (by first | (with_reducible assumption) | assumption); first | exact h_ | (have e_ := (HN31.out); omega) | simpa using h_); obtain ⟨_, hfr33⟩ := Kd.H_at HH31.out (by omega) (by have h_ : (0 : Int) < ((x6_2.length : Int) : Int) := of_decide_eq_true (by first | (with_reducible assumption) | assumption); first | exact h_ | (have e_ := (HN31.out); omega) | simpa using h_); have hx33_0 := hcc33 0 _ rfl; have hf33_0 := hfr33 0; (try simp only [Nat.add_zero] at hx33_0 hf33_0); (try rw [show ((Kd.slice 2 (Kd.int .i64))).sz = 1 from rfl, Nat.mul_one] at hx33_0); (try rw [show ((Kd.slice 2 (Kd.int .i64))).sz = 1 from rfl, Nat.mul_one] at hf33_0); (try rw [show ((0 : Int)).toNat = 0 from rfl] at hx33_0); (try simp only [Nat.reduceMul, Nat.zero_mul, Nat.zero_add, Nat.reduceAdd] at hx33_0); (try rw [show ((0 : Int)).toNat = 0 from rfl] at hf33_0); (try simp only [Nat.reduceMul, Nat.zero_mul, Nat.zero_add, Nat.reduceAdd] at hf33_0); have HP33 := Kd.S_seg0 HH31.out (by omega) (by have h_ : (0 : Int) < ((x6_2.length : Int) : Int) := of_decide_eq_true (by first | (with_reducible assumption) | assumption); first | exact h_ | (have e_ := (HN31.out); omega) | simpa using h_) (seg := [.slice Ao35 y377.length co35]) (j := 0) (show 1 ≤ 1 from by decide) (x' := y377) (Kd.M_row HO379.out) (fun _ hk => hk); (try simp only [show ((Kd.slice 2 (Kd.int .i64))).sz = 1 from rfl, Nat.mul_one, Nat.add_zero] at HP33); clear hcc33 hfr33) | ((with_reducible refine gate_store (t := 22) (p := 45) rfl ?_); refine store_event (t := 22) (p := 45) (v := ?vo_w34) (w1 := (w32.setCell ⟨go31, (0 : Int).toNat, none⟩ (.slice Ao35 y377.length co35))) ?hg ?ho ?hn ?hr ?_; (case ho => rfl); (case hg => rfl); (case hn => rfl); (case hr => first | (go_simp; done) | (go_simp; rfl)); intro w34 hw; have hg : w32.grownBy w34 (some go31) := (by rw [hw]; exact HP33.2); have hp_ : Kd.S (Kd.slice 2 (Kd.int .i64)) 22 w34 w.heap.size (fun k_ => some k_ ≠ (v349 : Value).ownBlock) (.slice (some ⟨go31, 0, none⟩) x6_2.length co30) y380 := (by rw [hw, Ny380.out]; exact HP33.1); clear HP33; have n0_ := aa (Kd.R_over' (v := (.slice (some ⟨go31, 0, none⟩) x6_2.length co30)) (by (with_reducible repeat (first | apply ab | apply ac | apply af)); exact HO_5.out) (Kd.R_typed hraw33) (by decide) hg); have n1_ := aa (IsS102.grown (by repeat (first | (with_reducible first | exact HI347.out | apply IsS102.alloc | apply IsS102.drewN | apply IsS102.drew | apply IsS102.set_1 | apply IsS102.set_2) | exact HI347.out)) hg (IsS102.own_ne HI347.out hraw33 (by decide))); have n2_ := aa ((by rw [hw]; exact ao HB.out GB31.out : Below w.heap.size w w34)); have n3_ := aa (hp_); clear HO_5; clear HI347; clear HB; clear HO379; clear HH31; have HO_5 := n0_; have HI347 := n1_; have HB := n2_; have HO_6 := n3_; clear n0_ n1_ n2_ n3_; clear hg hw hp_ hraw33))
          go_ret2
          exact ⟨_, _, by first | rfl | (simp [errW_none, errW_some] <;> rfl) | (simp [*, errW_none, errW_some] <;> rfl), by (with_reducible repeat (first | apply ab | apply ac | apply af)); exact HO_5.out, by (with_reducible repeat (first | apply Kd.S_alloc | apply Kd.S_drewN | apply Kd.S_drew)); exact HO_6.out, by repeat (first | (with_reducible first | exact HB.out | apply ah | apply ae | apply ag | refine ao ?_ (IsS102.ge HI347.out)) | exact HB.out)⟩
         ·rw [if_neg c27] at H
          exact absurd H (by simp)
        ·rw [if_neg c26] at H
         exact absurd H (by simp)
       ·rw [if_neg c25] at H
        have c25b0 : (t373 == 0) = false := beq_eq_false_iff_ne.mpr c25
        have c25b1 : (t373 != 0) = true := bne_iff_ne.mpr c25
        by_cases c36 : t373 = 1
        ·rw [if_pos c36] at H
         have c36b0 : (t373 == 1) = true := beq_iff_eq.mpr c36
         have c36b1 : (t373 != 1) = false := bne_eq_false_iff_eq.mpr c36
         clear c36
         replace H := bm.mp H
         obtain ⟨⟨t381, t384, t385⟩, A370, H⟩ := H
         (try dsimp only at H)
         have A37 := aa A370
         clear A370
         by_cases c38 : 0 < (x6_2.length : Int)
         ·rw [if_pos c38] at H
          have c38b0 : decide (0 < (x6_2.length : Int)) = true := decide_eq_true c38
          have c38b1 : decide (0 < x6_2.length) = true := decide_eq_true (by omega)
          clear c38
          obtain ⟨y386, hy386⟩ : ∃ y_ : List (List Int), y_ = (x6_2.set (0 : Int).toNat t381) := ⟨_, rfl⟩
          replace H : (some (t348, y386)) = some (r1, r2) := by first | (rw [hy386]; with_reducible exact H) | (have H2_ := (Option.bind_some _ _).symm.trans H; rw [hy386]; with_reducible exact H2_) | (have H2_ := (Option.bind_some _ _).symm.trans H; with_reducible exact H2_) | with_reducible exact H | (rw [hy386]; exact H) | exact H
          have Ny386 := aa hy386
          clear hy386
          simp only [Option.some.injEq, Prod.mk.injEq] at H
          obtain ⟨rfl, rfl⟩ := H
          go_wp2_with (first | ((with_reducible refine gate_callee (f := 88) rfl ?_); refine goesL_ (some 36) rfl rfl Try.func88 (by kernel_rfl) rfl #[.pointer (some ⟨g347, 0, none⟩), .int .i64 16] rfl (by (try simp only [List.map_toArray, List.map_cons, List.map_nil]); first | done | rfl | (simp only [List.length_drop, List.length_take]; rfl)) ?_; (with_reducible refine (spec_l00Src_pick.calls g347 t344 x348001_2 x348002_2 16 t373 t374 t375 w _ ?side1 ?side2 A24.out).mono ?_); (case side1 => repeat (first | (with_reducible first | exact HI347.out | apply IsS102.alloc | apply IsS102.drewN | apply IsS102.drew | apply IsS102.set_1 | apply IsS102.set_2) | exact HI347.out)); (case side2 => repeat (first | (with_reducible first | exact HB.out | apply ah | apply ae | apply ag | refine ao ?_ (IsS102.ge HI347.out)) | exact HB.out)); rintro e w40 ⟨rfl, hi, hb, hk⟩; refine ⟨_, rfl, ?_⟩; have n0_ := aa (an (bf (IsS102.apart (show IsS102 w _ g347 t344 x348001_2 x348002_2 from by repeat (first | (with_reducible first | exact HI347.out | apply IsS102.alloc | apply IsS102.drewN | apply IsS102.drew | apply IsS102.set_1 | apply IsS102.set_2) | exact HI347.out)) (by (with_reducible repeat (first | apply ab | apply ac | apply af)); exact HO_5.out) (by decide)) hk (fun _ h => h.2)) (fun _ h => h.1)); have n1_ := aa (Kd.S_mono (Kd.S_keep (IsS102.apartS (show IsS102 w _ g347 t344 x348001_2 x348002_2 from by repeat (first | (with_reducible first | exact HI347.out | apply IsS102.alloc | apply IsS102.drewN | apply IsS102.drew | apply IsS102.set_1 | apply IsS102.set_2) | exact HI347.out)) (by (with_reducible repeat (first | apply Kd.S_alloc | apply Kd.S_drewN | apply Kd.S_drew)); exact HO_6.out) (by decide)) hk (fun _ h => h.2)) (fun _ h => h.1)); have n2_ := aa (hb); have n3_ := aa (hi); clear HO_5; clear HO_6; clear HB; clear HI347; have HO_5 := n0_; have HO_6 := n1_; have HB := n2_; have HI347 := n3_; clear n0_ n1_ n2_ n3_; (try clear hb); (try clear hb2); (try clear hk); (try clear hi)) | ((with_reducible refine gate_callee (f := 84) rfl ?_); refine goesL_ (some 50) rfl rfl Try.func84 (by kernel_rfl) rfl #[.pointer (some ⟨g347, 0, none⟩)] rfl (by (try simp only [List.map_toArray, List.map_cons, List.map_nil]); first | done | rfl | (simp only [List.length_drop, List.length_take]; rfl)) ?_; (with_reducible refine (spec_l22Draw.calls k2 g347 t344 t374 t375 t381 t384 t385 w _ ?side1 ?side2 A37.out).mono ?_); (case side1 => repeat (first | (with_reducible first | exact HI347.out | apply IsS102.alloc | apply IsS102.drewN | apply IsS102.drew | apply IsS102.set_1 | apply IsS102.set_2) | exact HI347.out)); (case side2 => repeat (first | (with_reducible first | exact HB.out | apply ah | apply ae | apply ag | refine ao ?_ (IsS102.ge HI347.out)) | exact HB.out)); rintro e w41 ⟨v382, rfl, ho0, hi, hb, hk⟩; obtain ⟨Arow, crow, rfl⟩ := ap ho0; refine ⟨_, rfl, ?_⟩; have n0_ := aa (an (Kd.R_told (Kd.R_oldK (IsS102.apart (show IsS102 w _ g347 t344 t374 t375 from by repeat (first | (with_reducible first | exact HI347.out | apply IsS102.alloc | apply IsS102.drewN | apply IsS102.drew | apply IsS102.set_1 | apply IsS102.set_2) | exact HI347.out)) (by (with_reducible repeat (first | apply ab | apply ac | apply af)); exact HO_5.out) (by decide)) hk) (az ho0)) (fun _ h_ => h_.1)); have n1_ := aa (Kd.S_mono (Kd.S_told (Kd.S_oldK (IsS102.apartS (show IsS102 w _ g347 t344 t374 t375 from by repeat (first | (with_reducible first | exact HI347.out | apply IsS102.alloc | apply IsS102.drewN | apply IsS102.drew | apply IsS102.set_1 | apply IsS102.set_2) | exact HI347.out)) (by (with_reducible repeat (first | apply Kd.S_alloc | apply Kd.S_drewN | apply Kd.S_drew)); exact HO_6.out) (by decide)) hk) (az ho0)) (fun _ h_ => h_.1)); have n2_ := aa (bd (ba ho0 (bc (by (with_reducible repeat (first | apply ab | apply ac | apply af)); exact HO_5.out))) (ar (by repeat (first | (with_reducible first | exact HB.out | apply ah | apply ae | apply ag | refine ao ?_ (IsS102.ge HI347.out)) | exact HB.out)))); have n3_ := aa (hb); have n4_ := aa (hi); clear HO_5; clear HO_6; clear HB; clear HI347; have HO_5 := n0_; have HO_6 := n1_; have HO383 := n2_; have HB := n3_; have HI347 := n4_; clear n0_ n1_ n2_ n3_ n4_; (try clear hb); (try clear hb2); (try clear hk); (try clear hi); (try clear ho0); have p39 : 0 ≤ (0 : Int) := (by omega); have q39 : (0 : Int) < ((x6_2.length : Int) : Int) := of_decide_eq_true (by first | (with_reducible assumption) | assumption); have qi39 : (0 < x6_2.length) = True := eq_true (by omega); obtain ⟨go39, co39, eo39, gb39, gl39, cl39, HG39⟩ := Kd.S_form HO_6.out (by omega); (first | cases eo39 | (injection eo39 with ea_ en_ ec_; (first | subst ea_ | (injection ea_ with ea_; subst ea_)); subst ec_; clear en_)); have GB39 := aa gb39; have GG39 := aa HG39; clear gb39 gl39 HG39; obtain ⟨_, ce39, hcl39, hM39, hcc39, hfr39, _, _⟩ := Kd.S_elem HO_6.out [] (0 : Int) p39 q39; obtain ⟨ve39_0, rfl, ge39_0⟩ := hM39; have hx39_0 := hcc39 0 _ rfl; have hf39_0 := hfr39 0; (try simp only [show ((Kd.slice 2 (Kd.int .i64))).sz = 1 from rfl, Nat.mul_one, Nat.add_zero] at hx39_0); (try simp only [show ((Kd.slice 2 (Kd.int .i64))).sz = 1 from rfl, Nat.mul_one, Nat.add_zero] at hf39_0); clear hcl39 hcc39 hfr39; (try clear hM39); (try rw [show ((0 : Int)).toNat = 0 from rfl] at hx39_0); (try simp only [Nat.reduceMul, Nat.zero_mul, Nat.zero_add, Nat.reduceAdd] at hx39_0); (try rw [show ((0 : Int)).toNat = 0 from rfl] at hf39_0); (try simp only [Nat.reduceMul, Nat.zero_mul, Nat.zero_add, Nat.reduceAdd] at hf39_0); replace p39 := eq_true p39; replace q39 := eq_true q39; have HX42 := aa (show Kd.S (Kd.slice 2 (Kd.int .i64)) 22 w41 w.heap.size (fun k_ => ((fun k_ => some k_ ≠ (v349 : Value).ownBlock)) k_ ∧ ¬ ((fun k_ => some k_ = ((Value.slice Arow t381.length crow) : Value).ownBlock)) k_) (.slice (some ⟨go39, 0, none⟩) x6_2.length co39) x6_2 from (by (with_reducible repeat (first | apply Kd.S_alloc | apply Kd.S_drewN | apply Kd.S_drew)); exact Kd.S_mono HO_6.out (fun k_ hk => ⟨hk.1, fun e_ => hk.2 e_⟩))); obtain ⟨oki42, ce42, hcl42, hM42, hcc42, hfr42, hoki42, hH42⟩ := Kd.S_elem HX42.out [] (0 : Int) (by omega) (by have h_ : (0 : Int) < ((x6_2.length : Int) : Int) := of_decide_eq_true (by first | (with_reducible assumption) | assumption); first | exact h_ | (have e_ := (Kd.S_reads' HO_6.out).1; omega) | simpa using h_); obtain ⟨ve42_0, rfl, ge42_0⟩ := hM42; have HP42 := Kd.S_seg hH42 (by omega) (by have h_ : (0 : Int) < ((x6_2.length : Int) : Int) := of_decide_eq_true (by first | (with_reducible assumption) | assumption); first | exact h_ | (have e_ := (Kd.S_reads' HO_6.out).1; omega) | simpa using h_) (seg := [(Value.slice Arow t381.length crow)]) (j := 0) (show 1 ≤ 1 from by decide) (x' := t381) (Kd.M_row (an (Kd.R_tight rfl (an (ok' := fun k_ => ((fun k_ => some k_ ≠ (v349 : Value).ownBlock)) k_ ∧ k_ ≠ go39) (Kd.R_apart' (HO383.out) (Kd.S_typed HO_6.out) (by decide)) (fun k_ hk => ⟨hk.1.2, fun e_ => (hk.2) (by rw [e_]; rfl)⟩))) (fun _ h_ => Or.inr (h_)))) (fun _ hk => hk) (fun k_ hk_ => ((an (ok' := fun k_ => ((fun k_ => some k_ ≠ (v349 : Value).ownBlock)) k_ ∧ k_ ≠ go39) (Kd.R_apart' (HO383.out) (Kd.S_typed HO_6.out) (by decide)) (fun k_ hk => ⟨hk.1.2, fun e_ => (hk.2) (by rw [e_]; rfl)⟩))).1 k_ hk_.symm); have hx42_0 := hcc42 0 _ rfl; (try simp only [show ((Kd.slice 2 (Kd.int .i64))).sz = 1 from rfl, Nat.mul_one, Nat.add_zero] at hx42_0); (try rw [show ((0 : Int)).toNat = 0 from rfl] at hx42_0); (try simp only [Nat.reduceMul, Nat.zero_mul, Nat.zero_add, Nat.reduceAdd] at hx42_0); have hf42_0 := hfr42 0; (try simp only [show ((Kd.slice 2 (Kd.int .i64))).sz = 1 from rfl, Nat.mul_one, Nat.add_zero] at hf42_0); (try rw [show ((0 : Int)).toNat = 0 from rfl] at hf42_0); (try simp only [Nat.reduceMul, Nat.zero_mul, Nat.zero_add, Nat.reduceAdd] at hf42_0); clear hcl42 hcc42 hfr42 hoki42 hH42; (try clear hM42); (try simp only [show ((Kd.slice 2 (Kd.int .i64))).sz = 1 from rfl, Nat.mul_one, Nat.add_zero] at HP42)) | ((with_reducible refine gate_store (t := 22) (p := 51) rfl ?_); refine store_event (t := 22) (p := 51) (v := ?vo_w43) (w1 := (w41.setCell ⟨go39, 0, none⟩ ((Value.slice Arow t381.length crow)))) ?hg ?ho ?hn ?hr ?_; (case ho => rfl); (case hg => rfl); (case hn => rfl); (case hr => first | (go_simp; done) | (go_simp; rfl)); intro w43 hw; have hg : w41.grownBy w43 (some go39) := (by rw [hw]; exact HP42.2); have hp_ : Kd.S (Kd.slice 2 (Kd.int .i64)) 22 w43 w.heap.size (fun k_ => some k_ ≠ (v349 : Value).ownBlock) (.slice (some ⟨go39, 0, none⟩) x6_2.length co39) y386 := (by rw [hw, Ny386.out]; exact HP42.1); clear HP42; have n0_ := aa (Kd.R_over' (v := (.slice (some ⟨go39, 0, none⟩) x6_2.length co39)) (by (with_reducible repeat (first | apply ab | apply ac | apply af)); exact HO_5.out) (Kd.S_typed HO_6.out) (by decide) hg); have n1_ := aa (hp_); have n2_ := aa (IsS102.grown (by repeat (first | (with_reducible first | exact HI347.out | apply IsS102.alloc | apply IsS102.drewN | apply IsS102.drew | apply IsS102.set_1 | apply IsS102.set_2) | exact HI347.out)) hg (IsS102.own_neS HI347.out HO_6.out (by decide))); have n3_ := aa ((by rw [hw]; exact ao (HB.out) GB39.out : Below w.heap.size w w43)); clear HO_5; clear HO_6; clear HI347; clear HB; clear HO383; have HO_5 := n0_; have HO_6 := n1_; have HI347 := n2_; have HB := n3_; clear n0_ n1_ n2_ n3_; clear hg hw hp_))
          go_ret2
          exact ⟨_, _, by first | rfl | (simp [errW_none, errW_some] <;> rfl) | (simp [*, errW_none, errW_some] <;> rfl), by (with_reducible repeat (first | apply ab | apply ac | apply af)); exact an HO_5.out (fun _ hk => trivial), by (with_reducible repeat (first | apply Kd.S_alloc | apply Kd.S_drewN | apply Kd.S_drew)); exact HO_6.out, by repeat (first | (with_reducible first | exact HB.out | apply ah | apply ae | apply ag | refine ao ?_ (IsS102.ge HI347.out)) | exact HB.out)⟩
         ·rw [if_neg c38] at H
          exact absurd H (by simp)
        ·rw [if_neg c36] at H
         have c36b0 : (t373 == 1) = false := beq_eq_false_iff_ne.mpr c36
         have c36b1 : (t373 != 1) = true := bne_iff_ne.mpr c36
         simp only [Option.some.injEq, Prod.mk.injEq] at H
         obtain ⟨rfl, rfl⟩ := H
         go_wp2_with (first | ((with_reducible refine gate_callee (f := 88) rfl ?_); refine goesL_ (some 36) rfl rfl Try.func88 (by kernel_rfl) rfl #[.pointer (some ⟨g347, 0, none⟩), .int .i64 16] rfl (by (try simp only [List.map_toArray, List.map_cons, List.map_nil]); first | done | rfl | (simp only [List.length_drop, List.length_take]; rfl)) ?_; (with_reducible refine (spec_l00Src_pick.calls g347 t344 x348001_2 x348002_2 16 t373 t374 t375 w _ ?side1 ?side2 A24.out).mono ?_); (case side1 => repeat (first | (with_reducible first | exact HI347.out | apply IsS102.alloc | apply IsS102.drewN | apply IsS102.drew | apply IsS102.set_1 | apply IsS102.set_2) | exact HI347.out)); (case side2 => repeat (first | (with_reducible first | exact HB.out | apply ah | apply ae | apply ag | refine ao ?_ (IsS102.ge HI347.out)) | exact HB.out)); rintro e w44 ⟨rfl, hi, hb, hk⟩; refine ⟨_, rfl, ?_⟩; have n0_ := aa (an (bf (IsS102.apart (show IsS102 w _ g347 t344 x348001_2 x348002_2 from by repeat (first | (with_reducible first | exact HI347.out | apply IsS102.alloc | apply IsS102.drewN | apply IsS102.drew | apply IsS102.set_1 | apply IsS102.set_2) | exact HI347.out)) (by (with_reducible repeat (first | apply ab | apply ac | apply af)); exact HO_5.out) (by decide)) hk (fun _ h => h.2)) (fun _ h => h.1)); have n1_ := aa (Kd.S_mono (Kd.S_keep (IsS102.apartS (show IsS102 w _ g347 t344 x348001_2 x348002_2 from by repeat (first | (with_reducible first | exact HI347.out | apply IsS102.alloc | apply IsS102.drewN | apply IsS102.drew | apply IsS102.set_1 | apply IsS102.set_2) | exact HI347.out)) (by (with_reducible repeat (first | apply Kd.S_alloc | apply Kd.S_drewN | apply Kd.S_drew)); exact HO_6.out) (by decide)) hk (fun _ h => h.2)) (fun _ h => h.1)); have n2_ := aa (hb); have n3_ := aa (hi); clear HO_5; clear HO_6; clear HB; clear HI347; have HO_5 := n0_; have HO_6 := n1_; have HB := n2_; have HI347 := n3_; clear n0_ n1_ n2_ n3_; (try clear hb); (try clear hb2); (try clear hk); (try clear hi)))
         go_ret2
         exact ⟨_, _, by first | rfl | (simp [errW_none, errW_some] <;> rfl) | (simp [*, errW_none, errW_some] <;> rfl), by (with_reducible repeat (first | apply ab | apply ac | apply af)); exact HO_5.out, by (with_reducible repeat (first | apply Kd.S_alloc | apply Kd.S_drewN | apply Kd.S_drew)); exact HO_6.out, by repeat (first | (with_reducible first | exact HB.out | apply ah | apply ae | apply ag | refine ao ?_ (IsS102.ge HI347.out)) | exact HB.out)⟩
      ·rw [if_neg c23] at H
       have c23b0 : decide (0 < x7_5) = false := decide_eq_false c23
       clear c23
       simp only [Option.some.injEq, Prod.mk.injEq] at H
       obtain ⟨rfl, rfl⟩ := H
       go_wp2
       go_ret2
       exact ⟨_, _, by first | rfl | (simp [errW_none, errW_some] <;> rfl) | (simp [*, errW_none, errW_some] <;> rfl), by (with_reducible repeat (first | apply ab | apply ac | apply af)); exact HO_5.out, by (with_reducible repeat (first | apply Kd.S_alloc | apply Kd.S_drewN | apply Kd.S_drew)); exact HO_6.out, by repeat (first | (with_reducible first | exact HB.out | apply ah | apply ae | apply ag | refine ao ?_ (IsS102.ge HI347.out)) | exact HB.out)⟩

/-! ### spec_DrawRepairsFor: function 56 -/
def spec_DrawRepairsFor.f (k : Nat) (l0 : List Int) : Option (List Int × (List (List Int))) := (spec_l22DrawCopies.f k l0).bind fun bt387 => (some (bt387.1, bt387.2))
theorem spec_DrawRepairsFor.mono : ∀ a0 k, LeO (spec_DrawRepairsFor.f k a0) (spec_DrawRepairsFor.f (k + 1) a0) := by
 intro a0 k
 unfold spec_DrawRepairsFor.f
 repeat' first
   | (with_reducible exact spec_l22DrawCopies.mono _ _)
   | (with_reducible exact LeO.refl _)
   | (with_reducible exact LeO.none _)
   | (with_reducible refine LeO.ite ?_ ?_)
   | (with_reducible refine LeO.bind ?_ (fun _ => ?_))
   | exact spec_l22DrawCopies.mono _ _
   | exact LeO.none _
   | refine LeO.ite ?_ ?_
   | refine LeO.bind ?_ (fun _ => ?_)
set_option maxHeartbeats 8000000 in
set_option maxRecDepth 100000 in
theorem spec_DrawRepairsFor.calls (k : Nat) (A0 : Option Addr) (c0 : Nat) (l0 : List Int) (r1 : List Int) (r2 : List (List Int)) (w : World) (hr0 : Kd.C (Kd.int .u8) w A0 l0.length l0) (hc0 : l0.length ≤ c0) (h : spec_DrawRepairsFor.f k l0 = some (r1, r2)) :
  Calls Try.prog 56 #[.slice A0 l0.length c0] w fun e w' => ∃ v0_ v1_ : Value, e = .returned (.tuple #[v0_, v1_]) ∧ Kd.R (Kd.int .i64) 2 w' w.heap.size (fun _ => True) v0_ r1 ∧ Kd.S (Kd.slice 2 (Kd.int .i64)) 22 w' w.heap.size (fun k_ => some k_ ≠ (v0_ : Value).ownBlock) v1_ r2 ∧ Below w.heap.size w w' := by
 have HR0 := aa hr0
 have HC0 := aa hc0
 clear hr0 hc0
 have HB := aa (Below.refl w.heap.size w)
 have H : ((spec_l22DrawCopies.f k l0).bind fun bt387 => (some (bt387.1, bt387.2))) = some (r1, r2) := h
 clear h
 replace H := bm.mp H
 obtain ⟨⟨t387, t388⟩, A20, H⟩ := H
 replace H : (some (t387, t388)) = some (r1, r2) := H
 have A2 := aa A20
 clear A20
 simp only [Option.some.injEq, Prod.mk.injEq] at H
 obtain ⟨rfl, rfl⟩ := H
 go_enter Try.func56, Try.ntmps56
 go_wp2_with (first | ((with_reducible refine gate_callee (f := 83) rfl ?_); refine goesL_ (some 5) rfl rfl Try.func83 (by kernel_rfl) rfl #[.slice A0 l0.length c0] rfl (by (try simp only [List.map_toArray, List.map_cons, List.map_nil]); first | done | rfl | (simp only [List.length_drop, List.length_take]; rfl)) ?_; (with_reducible refine (spec_l22DrawCopies.calls k _ _ l0 t387 t388 _ ?side1 ?side2 A2.out).mono ?_); (case side1 => repeat (first | exact HR0.out | (with_reducible refine ak ?_ _) | (with_reducible refine al ?_ _) | (with_reducible refine am ?_))); (case side2 => exact HC0.out); rintro e w3 ⟨v389, v391, rfl, ho0, ho1, hb⟩; refine ⟨_, rfl, ?_⟩; have n0_ := aa (bd ho0 (ar (by repeat (first | (with_reducible first | exact HB.out | apply ah | apply ae | apply ag) | exact HB.out)))); have n1_ := aa (Kd.S_lower ho1 (ar (by repeat (first | (with_reducible first | exact HB.out | apply ah | apply ae | apply ag) | exact HB.out)))); have n2_ := aa (ay (by repeat (first | (with_reducible first | exact HB.out | apply ah | apply ae | apply ag) | exact HB.out)) hb); clear HB; have HO390 := n0_; have HO392 := n1_; have HB := n2_; clear n0_ n1_ n2_; (try clear hb); (try clear hb2); (try clear hk); (try clear hi); (try clear ho0); (try clear ho1)))
 go_ret2
 exact ⟨_, _, by first | rfl | (simp [errW_none, errW_some] <;> rfl) | (simp [*, errW_none, errW_some] <;> rfl), by (with_reducible repeat (first | apply ab | apply ac | apply af)); exact HO390.out, by (with_reducible repeat (first | apply Kd.S_alloc | apply Kd.S_drewN | apply Kd.S_drew)); exact HO392.out, by repeat (first | (with_reducible first | exact HB.out | apply ah | apply ae | apply ag) | exact HB.out)⟩

/-! ### spec_DrawStatesText: function 57 -/
def spec_DrawStatesText.f (k : Nat) (l0 : List Int) : Option (List Int) := (spec_l00From.f l0).bind fun bt393 => ((spec_l22Draw.f k bt393.1 bt393.2.1 bt393.2.2).bind fun bt397 => (some bt397.1))
theorem spec_DrawStatesText.mono : ∀ a0 k, LeO (spec_DrawStatesText.f k a0) (spec_DrawStatesText.f (k + 1) a0) := by
 intro a0 k
 unfold spec_DrawStatesText.f
 repeat' first
   | (with_reducible exact spec_l22Draw.mono _ _ _ _)
   | (with_reducible exact LeO.refl _)
   | (with_reducible exact LeO.none _)
   | (with_reducible refine LeO.ite ?_ ?_)
   | (with_reducible refine LeO.bind ?_ (fun _ => ?_))
   | exact spec_l22Draw.mono _ _ _ _
   | exact LeO.none _
   | refine LeO.ite ?_ ?_
   | refine LeO.bind ?_ (fun _ => ?_)
set_option maxHeartbeats 8000000 in
set_option maxRecDepth 100000 in
theorem spec_DrawStatesText.calls (k : Nat) (A0 : Option Addr) (c0 : Nat) (l0 : List Int) (r : List Int) (w : World) (hr0 : Kd.C (Kd.int .u8) w A0 l0.length l0) (hc0 : l0.length ≤ c0) (h : spec_DrawStatesText.f k l0 = some r) :
  Calls Try.prog 57 #[.slice A0 l0.length c0] w fun e w' => ∃ v0_ : Value, e = .returned (v0_) ∧ Kd.R (Kd.int .i64) 2 w' w.heap.size (fun _ => True) v0_ r ∧ Below w.heap.size w w' := by
 have HR0 := aa hr0
 have HC0 := aa hc0
 clear hr0 hc0
 have HB := aa (Below.refl w.heap.size w)
 have H : ((spec_l00From.f l0).bind fun bt393 => ((spec_l22Draw.f k bt393.1 bt393.2.1 bt393.2.2).bind fun bt397 => (some bt397.1))) = some r := h
 clear h
 replace H := bm.mp H
 obtain ⟨⟨t393, t394, t395⟩, A20, H⟩ := H
 replace H : ((spec_l22Draw.f k t393 t394 t395).bind fun bt397 => (some bt397.1)) = some r := H
 have A2 := aa A20
 clear A20
 replace H := bm.mp H
 obtain ⟨⟨t397, t400, t401⟩, A30, H⟩ := H
 replace H : (some t397) = some r := H
 have A3 := aa A30
 clear A30
 obtain rfl := Option.some.inj H
 go_enter Try.func57, Try.ntmps57
 go_wp2_with (first | ((with_reducible refine gate_callee (f := 85) rfl ?_); refine goesL_ (some 4) rfl rfl Try.func85 (by kernel_rfl) rfl #[.slice A0 l0.length c0] rfl (by (try simp only [List.map_toArray, List.map_cons, List.map_nil]); first | done | rfl | (simp only [List.length_drop, List.length_take]; rfl)) ?_; (with_reducible refine (spec_l00From.calls _ _ l0 t393 t394 t395 w _ ?side1 ?side2 ?side3 A2.out).mono ?_); (case side1 => repeat (first | (with_reducible first | exact HB.out | apply ah | apply ae | apply ag) | exact HB.out)); (case side2 => exact HR0.out); (case side3 => exact HC0.out); rintro e w4 ⟨g396, rfl, hi, hb, hb2⟩; refine ⟨_, rfl, ?_⟩; have n0_ := aa (hb); have n1_ := aa (hi); clear HB; have HB := n0_; have HI396 := n1_; clear n0_ n1_; (try clear hb); (try clear hb2); (try clear hk); (try clear hi)) | ((with_reducible refine gate_callee (f := 84) rfl ?_); refine goesL_ (some 5) rfl rfl Try.func84 (by kernel_rfl) rfl #[.pointer (some ⟨g396, 0, none⟩)] rfl (by (try simp only [List.map_toArray, List.map_cons, List.map_nil]); first | done | rfl | (simp only [List.length_drop, List.length_take]; rfl)) ?_; (with_reducible refine (spec_l22Draw.calls k g396 t393 t394 t395 t397 t400 t401 w _ ?side1 ?side2 A3.out).mono ?_); (case side1 => repeat (first | (with_reducible first | exact HI396.out | apply IsS102.alloc | apply IsS102.drewN | apply IsS102.drew | apply IsS102.set_1 | apply IsS102.set_2) | exact HI396.out)); (case side2 => repeat (first | (with_reducible first | exact HB.out | apply ah | apply ae | apply ag | refine ao ?_ (IsS102.ge HI396.out)) | exact HB.out)); rintro e w5 ⟨v398, rfl, ho0, hi, hb, hk⟩; refine ⟨_, rfl, ?_⟩; have n0_ := aa (bd ho0 (ar (by repeat (first | (with_reducible first | exact HB.out | apply ah | apply ae | apply ag | refine ao ?_ (IsS102.ge HI396.out)) | exact HB.out)))); have n1_ := aa (hb); have n2_ := aa (hi); clear HB; clear HI396; have HO399 := n0_; have HB := n1_; have HI396 := n2_; clear n0_ n1_ n2_; (try clear hb); (try clear hb2); (try clear hk); (try clear hi); (try clear ho0)))
 go_ret
 exact ⟨_, by first | rfl | (simp [errW_none, errW_some] <;> rfl) | (simp [*, errW_none, errW_some] <;> rfl), by (with_reducible repeat (first | apply ab | apply ac | apply af)); exact HO399.out, by repeat (first | (with_reducible first | exact HB.out | apply ah | apply ae | apply ag | refine ao ?_ (IsS102.ge HI396.out)) | exact HB.out)⟩

/-! ### spec_l00Src_text: function 116 -/
def spec_l00Src_text.f (s0_0 : List Int) (s0_1 : Int) (s0_2 : Int) (l1 : List ByteArray) : Option (ByteArray × Int × Int) := (spec_l00Src_pick.f s0_0 s0_1 s0_2 (l1.length : Int)).bind fun bt402 => (if 0 ≤ bt402.1 then (if bt402.1 < (l1.length : Int) then (some (rdOf ByteArray.empty l1 bt402.1, bt402.2.1, bt402.2.2)) else (none)) else (none))
set_option maxHeartbeats 8000000 in
set_option maxRecDepth 100000 in
theorem spec_l00Src_text.calls (g : Nat) (s0_0 : List Int) (s0_1 : Int) (s0_2 : Int) (A1 : Option Addr) (c1 : Nat) (l1 : List ByteArray) (r1 : ByteArray) (r2 : Int) (r3 : Int) (w0 w : World) (hI : IsS102 w0 w g s0_0 s0_1 s0_2) (hB : Below w0.heap.size w0 w) (hr1 : Kd.C Kd.string w A1 l1.length l1) (hc1 : l1.length ≤ c1) (hf1 : ∀ ad, A1 = some ad → 0 < l1.length → ad.block ≠ g) (h : spec_l00Src_text.f s0_0 s0_1 s0_2 l1 = some (r1, r2, r3)) :
  Calls Try.prog 116 #[.pointer (some ⟨g, 0, none⟩), .slice A1 l1.length c1] w fun e w' => e = .returned (.string r1) ∧ IsS102 w0 w' g s0_0 r2 r3 ∧ Below w0.heap.size w0 w' ∧ KeepBut w w' g none := by
 have HR1 := aa hr1
 have HC1 := aa hc1
 clear hr1 hc1
 have HI0 := aa hI
 have HK := aa (KeepBut.refl w g none)
 have HL := aa hB.size
 clear hI
 have HW0 := aa hB.size
 have HB := aa hB
 clear hB
 have H : ((spec_l00Src_pick.f s0_0 s0_1 s0_2 (l1.length : Int)).bind fun bt402 => (if 0 ≤ bt402.1 then (if bt402.1 < (l1.length : Int) then (some (rdOf ByteArray.empty l1 bt402.1, bt402.2.1, bt402.2.2)) else (none)) else (none))) = some (r1, r2, r3) := h
 clear h
 replace H := bm.mp H
 obtain ⟨⟨t402, t403, t404⟩, A30, H⟩ := H
 (try dsimp only at H)
 have A3 := aa A30
 clear A30
 by_cases c4 : 0 ≤ t402
 ·rw [if_pos c4] at H
  have c4b0 : decide (0 ≤ t402) = true := decide_eq_true c4
  clear c4
  by_cases c5 : t402 < (l1.length : Int)
  ·rw [if_pos c5] at H
   have c5b0 : decide (t402 < (l1.length : Int)) = true := decide_eq_true c5
   clear c5
   simp only [Option.some.injEq, Prod.mk.injEq] at H
   obtain ⟨rfl, rfl, rfl⟩ := H
   go_enter Try.func116, Try.ntmps116
   go_wp2_with (first | ((with_reducible refine gate_callee (f := 88) rfl ?_); refine goesL_ (some 9) rfl rfl Try.func88 (by kernel_rfl) rfl #[.pointer (some ⟨g, 0, none⟩), .int .i64 (l1.length : Int)] rfl (by (try simp only [List.map_toArray, List.map_cons, List.map_nil]); first | done | rfl | (simp only [List.length_drop, List.length_take]; rfl)) ?_; (with_reducible refine (spec_l00Src_pick.calls g s0_0 s0_1 s0_2 (l1.length : Int) t402 t403 t404 w0 _ ?side1 ?side2 A3.out).mono ?_); (case side1 => repeat (first | (with_reducible first | exact HI0.out | apply IsS102.alloc | apply IsS102.drewN | apply IsS102.drew | apply IsS102.set_1 | apply IsS102.set_2) | exact HI0.out)); (case side2 => repeat (first | (with_reducible first | exact HB.out | apply ah | apply ae | apply ag | refine ao ?_ (IsS102.ge HI0.out)) | exact HB.out)); rintro e w6 ⟨rfl, hi, hb, hk⟩; refine ⟨_, rfl, ?_⟩; have n0_ := aa (KeepBut.trans (by repeat (first | (with_reducible first | exact HK.out | apply KeepBut.set_ | apply au | apply ax | apply av) | exact HK.out)) hk (.inl rfl)); have n1_ := aa (hb); have n2_ := aa (hi); clear HK; clear HB; clear HI0; have HK := n0_; have HB := n1_; have HI0 := n2_; clear n0_ n1_ n2_; (try clear hb); (try clear hb2); (try clear hk); (try clear hi); have p405 : 0 ≤ (t402 : Int) := of_decide_eq_true (by first | (with_reducible assumption) | assumption); have q405 : t402 < (l1.length : Int) := of_decide_eq_true (by first | (with_reducible assumption) | assumption); obtain ⟨ad405, e405, hx405_0⟩ := Kd.at_string HR1.out t402 p405 q405; cases e405; replace hx405_0 := keep_cell HK.out hx405_0 (by first | (rw [bg]; exact hf1 _ rfl (by omega)) | exact hf1 _ rfl (by omega) | exact hf1 ad405 rfl (by omega)); replace p405 := eq_true p405; replace q405 := eq_true q405))
   go_ret
   exact ⟨by first | rfl | (simp [errW_none, errW_some] <;> rfl) | (simp [*, errW_none, errW_some] <;> rfl), by repeat (first | (with_reducible first | exact HI0.out | apply IsS102.alloc | apply IsS102.drewN | apply IsS102.drew | apply IsS102.set_1 | apply IsS102.set_2) | exact HI0.out), by repeat (first | (with_reducible first | exact HB.out | apply ah | apply ae | apply ag | refine ao ?_ (IsS102.ge HI0.out)) | exact HB.out), by repeat (first | (with_reducible first | exact HK.out | apply KeepBut.set_ | apply au | apply ax | apply av) | exact HK.out)⟩
  ·rw [if_neg c5] at H
   exact absurd H (by simp)
 ·rw [if_neg c4] at H
  exact absurd H (by simp)

/-! ### spec_l01Spoil: function 89 -/
def spec_l01Spoil.f (s0_0 : List Int) (s0_1 : Int) (s0_2 : Int) (a1 : ByteArray) : Option (ByteArray × Int × Int) := (spec_l00Src_pick.f s0_0 s0_1 s0_2 5).bind fun bt406 => (if bt406.1 = 0 then ((spec_l00Src_pick.f s0_0 bt406.2.1 bt406.2.2 (wrap64 ((a1.size : Int) + 1))).bind fun bt409 => (if 0 ≤ bt409.1 then (if bt409.1 ≤ (a1.size : Int) then ((spec_l00Src_text.f s0_0 bt409.2.1 bt409.2.2 (([(⟨#[32]⟩ : ByteArray), (⟨#[48]⟩ : ByteArray), (⟨#[45]⟩ : ByteArray), (⟨#[120]⟩ : ByteArray), (⟨#[49]⟩ : ByteArray), (⟨#[57]⟩ : ByteArray), (⟨#[46]⟩ : ByteArray)] : List ByteArray))).bind fun bt415 => (if (a1.extract 0 (bt409.1 : Int).toNat).size + bt415.1.size ≤ 9223372036854775807 then (if ((a1.extract 0 (bt409.1 : Int).toNat) ++ bt415.1).size + (a1.extract (bt409.1 : Int).toNat a1.size).size ≤ 9223372036854775807 then (some (((a1.extract 0 (bt409.1 : Int).toNat) ++ bt415.1) ++ (a1.extract (bt409.1 : Int).toNat a1.size), bt415.2.1, bt415.2.2)) else (none)) else (none))) else (none)) else (none))) else (if bt406.1 = 1 then (if a1.toList = ([] : List UInt8) then (some (a1, bt406.2.1, bt406.2.2)) else ((spec_l00Src_pick.f s0_0 bt406.2.1 bt406.2.2 (a1.size : Int)).bind fun bt418 => (if 0 ≤ bt418.1 then (if bt418.1 ≤ (a1.size : Int) then (if 0 ≤ (wrap64 (bt418.1 + 1)) then (if (wrap64 (bt418.1 + 1)) ≤ (a1.size : Int) then (if (a1.extract 0 (bt418.1 : Int).toNat).size + (a1.extract ((wrap64 (bt418.1 + 1)) : Int).toNat a1.size).size ≤ 9223372036854775807 then (some ((a1.extract 0 (bt418.1 : Int).toNat) ++ (a1.extract ((wrap64 (bt418.1 + 1)) : Int).toNat a1.size), bt418.2.1, bt418.2.2)) else (none)) else (none)) else (none)) else (none)) else (none)))) else (some (a1, bt406.2.1, bt406.2.2))))
def spec_l01Spoil.T4 : Bool × List (List Nat × List Nat) := (true, [([], []), ([], []), ([0, 1], [0, 1]), ([], []), ([], []), ([3, 4], [3, 4]), ([2, 5], [2, 5]), ([], []), ([], []), ([7, 8], [7, 8]), ([6, 9], [6, 9]), ([10, 5, 0, 1, 2, 3, 4, 5, 6, 7, 8, 9, 10], [0, 7, 10])])
def spec_l01Spoil.B4 : List Nat := [0, 0, 3, 0, 0, 24, 63, 0, 0, 384, 1023, 2047]
theorem spec_l01Spoil.tab4 : rtab .any (opsOf Try.f89 4) = spec_l01Spoil.T4 := by kernel_rfl
theorem spec_l01Spoil.bits4 : waitsOk spec_l01Spoil.T4.2 spec_l01Spoil.B4 = true := by kernel_rfl
def spec_l01Spoil.T8 : Bool × List (List Nat × List Nat) := (true, [([], []), ([], []), ([0, 1], [0, 1]), ([], []), ([], []), ([4], [4]), ([3, 5], [3, 5]), ([2, 6], [2, 6]), ([7, 0, 1, 2, 3, 4, 5, 6, 7], [0, 3, 7])])
def spec_l01Spoil.B8 : List Nat := [0, 0, 3, 0, 0, 16, 56, 127, 255]
theorem spec_l01Spoil.tab8 : rtab .any (opsOf Try.f89 8) = spec_l01Spoil.T8 := by kernel_rfl
theorem spec_l01Spoil.bits8 : waitsOk spec_l01Spoil.T8.2 spec_l01Spoil.B8 = true := by kernel_rfl
set_option maxHeartbeats 8000000 in
set_option maxRecDepth 100000 in
theorem spec_l01Spoil.calls (g : Nat) (s0_0 : List Int) (s0_1 : Int) (s0_2 : Int) (a1 : ByteArray) (r1 : ByteArray) (r2 : Int) (r3 : Int) (w0 w : World) (hI : IsS102 w0 w g s0_0 s0_1 s0_2) (hB : Below w0.heap.size w0 w) (h : spec_l01Spoil.f s0_0 s0_1 s0_2 a1 = some (r1, r2, r3)) :
  Calls Try.prog 89 #[.pointer (some ⟨g, 0, none⟩), .string a1] w fun e w' => e = .returned (.string r1) ∧ IsS102 w0 w' g s0_0 r2 r3 ∧ Below w0.heap.size w0 w' ∧ KeepBut w w' g none := by
 have HI0 := aa hI
 have HK := aa (KeepBut.refl w g none)
 have HL := aa hB.size
 clear hI
 have HW0 := aa hB.size
 have HB := aa hB
 clear hB
 have H : ((spec_l00Src_pick.f s0_0 s0_1 s0_2 5).bind fun bt406 => (if bt406.1 = 0 then ((spec_l00Src_pick.f s0_0 bt406.2.1 bt406.2.2 (wrap64 ((a1.size : Int) + 1))).bind fun bt409 => (if 0 ≤ bt409.1 then (if bt409.1 ≤ (a1.size : Int) then ((spec_l00Src_text.f s0_0 bt409.2.1 bt409.2.2 (([(⟨#[32]⟩ : ByteArray), (⟨#[48]⟩ : ByteArray), (⟨#[45]⟩ : ByteArray), (⟨#[120]⟩ : ByteArray), (⟨#[49]⟩ : ByteArray), (⟨#[57]⟩ : ByteArray), (⟨#[46]⟩ : ByteArray)] : List ByteArray))).bind fun bt415 => (if (a1.extract 0 (bt409.1 : Int).toNat).size + bt415.1.size ≤ 9223372036854775807 then (if ((a1.extract 0 (bt409.1 : Int).toNat) ++ bt415.1).size + (a1.extract (bt409.1 : Int).toNat a1.size).size ≤ 9223372036854775807 then (some (((a1.extract 0 (bt409.1 : Int).toNat) ++ bt415.1) ++ (a1.extract (bt409.1 : Int).toNat a1.size), bt415.2.1, bt415.2.2)) else (none)) else (none))) else (none)) else (none))) else (if bt406.1 = 1 then (if a1.toList = ([] : List UInt8) then (some (a1, bt406.2.1, bt406.2.2)) else ((spec_l00Src_pick.f s0_0 bt406.2.1 bt406.2.2 (a1.size : Int)).bind fun bt418 => (if 0 ≤ bt418.1 then (if bt418.1 ≤ (a1.size : Int) then (if 0 ≤ (wrap64 (bt418.1 + 1)) then (if (wrap64 (bt418.1 + 1)) ≤ (a1.size : Int) then (if (a1.extract 0 (bt418.1 : Int).toNat).size + (a1.extract ((wrap64 (bt418.1 + 1)) : Int).toNat a1.size).size ≤ 9223372036854775807 then (some ((a1.extract 0 (bt418.1 : Int).toNat) ++ (a1.extract ((wrap64 (bt418.1 + 1)) : Int).toNat a1.size), bt418.2.1, bt418.2.2)) else (none)) else (none)) else (none)) else (none)) else (none)))) else (some (a1, bt406.2.1, bt406.2.2))))) = some (r1, r2, r3) := h
 clear h
 replace H := bm.mp H
 obtain ⟨⟨t406, t407, t408⟩, A30, H⟩ := H
 (try dsimp only at H)
 have A3 := aa A30
 clear A30
 by_cases c4 : t406 = 0
 ·rw [if_pos c4] at H
  have c4b0 : (t406 == 0) = true := beq_iff_eq.mpr c4
  have c4b1 : (t406 != 0) = false := bne_eq_false_iff_eq.mpr c4
  clear c4
  replace H := bm.mp H
  obtain ⟨⟨t409, t410, t411⟩, A50, H⟩ := H
  (try dsimp only at H)
  have A5 := aa A50
  clear A50
  by_cases c6 : 0 ≤ t409
  ·rw [if_pos c6] at H
   have c6b0 := eq_true c6
   have c6b1 : decide (0 ≤ t409) = true := decide_eq_true c6
   clear c6
   by_cases c7 : t409 ≤ (a1.size : Int)
   ·rw [if_pos c7] at H
    have c7b0 := eq_true c7
    have c7b1 : decide (t409 ≤ (a1.size : Int)) = true := decide_eq_true c7
    clear c7
    obtain ⟨y412, hy412⟩ : ∃ y_ : List ByteArray, y_ = (([(⟨#[32]⟩ : ByteArray), (⟨#[48]⟩ : ByteArray), (⟨#[45]⟩ : ByteArray), (⟨#[120]⟩ : ByteArray), (⟨#[49]⟩ : ByteArray), (⟨#[57]⟩ : ByteArray), (⟨#[46]⟩ : ByteArray)] : List ByteArray)) := ⟨_, rfl⟩
    replace H : ((spec_l00Src_text.f s0_0 t410 t411 y412).bind fun bt415 => (if (a1.extract 0 (t409 : Int).toNat).size + bt415.1.size ≤ 9223372036854775807 then (if ((a1.extract 0 (t409 : Int).toNat) ++ bt415.1).size + (a1.extract (t409 : Int).toNat a1.size).size ≤ 9223372036854775807 then (some (((a1.extract 0 (t409 : Int).toNat) ++ bt415.1) ++ (a1.extract (t409 : Int).toNat a1.size), bt415.2.1, bt415.2.2)) else (none)) else (none))) = some (r1, r2, r3) := by first | (rw [hy412]; with_reducible exact H) | (have H2_ := (Option.bind_some _ _).symm.trans H; rw [hy412]; with_reducible exact H2_) | (have H2_ := (Option.bind_some _ _).symm.trans H; with_reducible exact H2_) | with_reducible exact H | (rw [hy412]; exact H) | exact H
    have Ny412 := aa hy412
    clear hy412
    replace H := bm.mp H
    obtain ⟨⟨t415, t416, t417⟩, A80, H⟩ := H
    (try dsimp only at H)
    have A8 := aa A80
    clear A80
    by_cases c9 : (a1.extract 0 (t409 : Int).toNat).size + t415.size ≤ 9223372036854775807
    ·rw [if_pos c9] at H
     have c9b0 := eq_true c9
     have c9b1 : decide ((a1.extract 0 (t409 : Int).toNat).size + t415.size ≤ 9223372036854775807) = true := decide_eq_true c9
     try have c9b2 : (9223372036854775807 < (a1.extract 0 (t409 : Int).toNat).size + t415.size) = False := eq_false (Nat.not_lt.2 c9)
     have c9b3 : (9223372036854775807 < (t409).toNat + t415.size) = False := eq_false (by have h_ := c9; simp only [ByteArray.size_append, ByteArray.size_extract] at h_; have q_c6 := of_eq_true c6b0; have q_c7 := of_eq_true c7b0; omega)
     have c10b0 := eq_true (of_decide_eq_true (by first | (with_reducible assumption) | assumption) : 0 ≤ t409)
     have c11b0 := eq_true (of_decide_eq_true (by first | (with_reducible assumption) | assumption) : t409 ≤ (a1.size : Int))
     by_cases c12 : ((a1.extract 0 (t409 : Int).toNat) ++ t415).size + (a1.extract (t409 : Int).toNat a1.size).size ≤ 9223372036854775807
     ·rw [if_pos c12] at H
      have c12b0 := eq_true c12
      have c12b1 : decide (((a1.extract 0 (t409 : Int).toNat) ++ t415).size + (a1.extract (t409 : Int).toNat a1.size).size ≤ 9223372036854775807) = true := decide_eq_true c12
      try have c12b2 : (9223372036854775807 < ((a1.extract 0 (t409 : Int).toNat) ++ t415).size + (a1.extract (t409 : Int).toNat a1.size).size) = False := eq_false (Nat.not_lt.2 c12)
      have c12b3 : (9223372036854775807 < ((t409).toNat + t415.size) + (a1.size - (t409).toNat)) = False := eq_false (by have h_ := c12; simp only [ByteArray.size_append, ByteArray.size_extract] at h_; have q_c6 := of_eq_true c6b0; have q_c7 := of_eq_true c7b0; omega)
      simp only [Option.some.injEq, Prod.mk.injEq] at H
      obtain ⟨rfl, rfl, rfl⟩ := H
      go_enter Try.func89, Try.ntmps89
      try go_wp2_with (first | ((with_reducible refine gate_callee (f := 88) rfl ?_); refine goesL_ (some 8) rfl rfl Try.func88 (by kernel_rfl) rfl #[.pointer (some ⟨g, 0, none⟩), .int .i64 5] rfl (by (try simp only [List.map_toArray, List.map_cons, List.map_nil]); first | done | rfl | (simp only [List.length_drop, List.length_take]; rfl)) ?_; (with_reducible refine (spec_l00Src_pick.calls g s0_0 s0_1 s0_2 5 t406 t407 t408 w0 _ ?side1 ?side2 A3.out).mono ?_); (case side1 => repeat (first | (with_reducible first | exact HI0.out | apply IsS102.alloc | apply IsS102.drewN | apply IsS102.drew | apply IsS102.set_1 | apply IsS102.set_2) | exact HI0.out)); (case side2 => repeat (first | (with_reducible first | exact HB.out | apply ah | apply ae | apply ag | refine ao ?_ (IsS102.ge HI0.out)) | exact HB.out)); rintro e w13 ⟨rfl, hi, hb, hk⟩; refine ⟨_, rfl, ?_⟩; have n0_ := aa (KeepBut.trans (by repeat (first | (with_reducible first | exact HK.out | apply KeepBut.set_ | apply au | apply ax | apply av) | exact HK.out)) hk (.inl rfl)); have n1_ := aa (hb); have n2_ := aa (hi); clear HK; clear HB; clear HI0; have HK := n0_; have HB := n1_; have HI0 := n2_; clear n0_ n1_ n2_; (try clear hb); (try clear hb2); (try clear hk); (try clear hi)) | ((with_reducible refine gate_callee (f := 88) rfl ?_); refine goesL_ (some 15) rfl rfl Try.func88 (by kernel_rfl) rfl #[.pointer (some ⟨g, 0, none⟩), .int .i64 (wrap64 ((a1.size : Int) + 1))] rfl (by (try simp only [List.map_toArray, List.map_cons, List.map_nil]); first | done | rfl | (simp only [List.length_drop, List.length_take]; rfl)) ?_; (with_reducible refine (spec_l00Src_pick.calls g s0_0 t407 t408 (wrap64 ((a1.size : Int) + 1)) t409 t410 t411 w0 _ ?side1 ?side2 A5.out).mono ?_); (case side1 => repeat (first | (with_reducible first | exact HI0.out | apply IsS102.alloc | apply IsS102.drewN | apply IsS102.drew | apply IsS102.set_1 | apply IsS102.set_2) | exact HI0.out)); (case side2 => repeat (first | (with_reducible first | exact HB.out | apply ah | apply ae | apply ag | refine ao ?_ (IsS102.ge HI0.out)) | exact HB.out)); rintro e w14 ⟨rfl, hi, hb, hk⟩; refine ⟨_, rfl, ?_⟩; have n0_ := aa (KeepBut.trans (by repeat (first | (with_reducible first | exact HK.out | apply KeepBut.set_ | apply au | apply ax | apply av) | exact HK.out)) hk (.inl rfl)); have n1_ := aa (hb); have n2_ := aa (hi); clear HK; clear HB; clear HI0; have HK := n0_; have HB := n1_; have HI0 := n2_; clear n0_ n1_ n2_; (try clear hb); (try clear hb2); (try clear hk); (try clear hi)))
      have n0_ := aa (IsS102.drew HI0.out)
      have n1_ := aa (ax HK.out)
      have n2_ := aa (ag HB.out)
      clear HI0
      clear HK
      clear HB
      have HI0 := n0_
      have HK := n1_
      have HB := n2_
      clear n0_ n1_ n2_
      refine start_ (n := 12) (S := fun w' => True) (ds := []) #[false, false, false, false, false, false, false, false, false, false, false, false] (by kernel_rfl) rfl rfl trivial (fun hHeld => ?_); refine with_tabW spec_l01Spoil.tab4 spec_l01Spoil.bits4 (fun HT_ HW_ => ?_)
      generalize w14.drew = w15 at HI0 HK HB hHeld ⊢
      refine pure_ (i := 0) (N := some 16) (v := ?_) (a' := ?_) #[true, false, false, false, false, false, false, false, false, false, false, false] rfl rfl (any_of HT_.out (by kernel_rfl)) (fun _ _ _ h => h) (Or.inl ⟨by rfl, ?_⟩) ?_ ?_
      rotate_left
      ·intro w'
       go_simp
       with_reducible rfl
      rotate_left
      ·simp only [Act.put, List.setIfInBounds_toArray, List.set_cons_zero, List.set_cons_succ, i64_w, i32_w]
       rfl
      refine pure_ (i := 1) (N := some 17) (v := ?_) (a' := ?_) #[true, true, false, false, false, false, false, false, false, false, false, false] rfl rfl (any_of HT_.out (by kernel_rfl)) (fun _ _ _ h => h) (Or.inl ⟨by rfl, ?_⟩) ?_ ?_
      rotate_left
      ·intro w'
       go_simp
       with_reducible rfl
      rotate_left
      ·simp only [Act.put, List.setIfInBounds_toArray, List.set_cons_zero, List.set_cons_succ, i64_w, i32_w]
       rfl
      refine pure_ (i := 2) (N := some 18) (v := ?_) (a' := ?_) #[true, true, true, false, false, false, false, false, false, false, false, false] rfl rfl (any_of HT_.out (by kernel_rfl)) (fun _ _ _ h => h) (Or.inl ⟨by rfl, ?_⟩) ?_ ?_
      rotate_left
      ·intro w'
       go_simp
       with_reducible rfl
      rotate_left
      ·simp only [Act.put, List.setIfInBounds_toArray, List.set_cons_zero, List.set_cons_succ, i64_w, i32_w]
       rfl
      refine pure_ (i := 3) (N := some 19) (v := ?_) (a' := ?_) #[true, true, true, true, false, false, false, false, false, false, false, false] rfl rfl (any_of HT_.out (by kernel_rfl)) (fun _ _ _ h => h) (Or.inl ⟨by rfl, ?_⟩) ?_ ?_
      rotate_left
      ·intro w'
       go_simp
       with_reducible rfl
      rotate_left
      ·simp only [Act.put, List.setIfInBounds_toArray, List.set_cons_zero, List.set_cons_succ, i64_w, i32_w]
       rfl
      refine pure_ (i := 7) (N := some 23) (v := ?_) (a' := ?_) #[true, true, true, true, false, false, false, true, false, false, false, false] rfl rfl (any_of HT_.out (by kernel_rfl)) (fun _ _ _ h => h) (Or.inl ⟨by rfl, ?_⟩) ?_ ?_
      rotate_left
      ·intro w'
       go_simp
       with_reducible rfl
      rotate_left
      ·simp only [Act.put, List.setIfInBounds_toArray, List.set_cons_zero, List.set_cons_succ, i64_w, i32_w]
       rfl
      refine pure_ (i := 8) (N := some 24) (v := ?_) (a' := ?_) #[true, true, true, true, false, false, false, true, true, false, false, false] rfl rfl (any_of HT_.out (by kernel_rfl)) (fun _ _ _ h => h) (Or.inl ⟨by rfl, ?_⟩) ?_ ?_
      rotate_left
      ·intro w'
       go_simp
       with_reducible rfl
      rotate_left
      ·simp only [Act.put, List.setIfInBounds_toArray, List.set_cons_zero, List.set_cons_succ, i64_w, i32_w]
       rfl
      refine pure_ (i := 9) (N := some 25) (v := ?_) (a' := ?_) #[true, true, true, true, false, false, false, true, true, true, false, false] rfl rfl (any_of HT_.out (by kernel_rfl)) (fun _ _ _ h => h) (Or.inl ⟨by rfl, ?_⟩) ?_ ?_
      rotate_left
      ·intro w'
       go_simp
       with_reducible rfl
      rotate_left
      ·simp only [Act.put, List.setIfInBounds_toArray, List.set_cons_zero, List.set_cons_succ, i64_w, i32_w]
       rfl
      refine one_ (i := 4) (N := some 20) #[true, true, true, true, true, false, false, true, true, true, false, false] rfl rfl (one_of HT_.out (by kernel_rfl)) (by decide) (fun K hK => ?_)
      refine Kd.R_lit_step Kd.string _ 9 ?hg (N := 20) ?hd (xs := ([(⟨#[32]⟩ : ByteArray), (⟨#[48]⟩ : ByteArray), (⟨#[45]⟩ : ByteArray), (⟨#[120]⟩ : ByteArray), (⟨#[49]⟩ : ByteArray), (⟨#[57]⟩ : ByteArray), (⟨#[46]⟩ : ByteArray)] : List ByteArray)) (inner := [.string (⟨#[32]⟩ : ByteArray), .string (⟨#[48]⟩ : ByteArray), .string (⟨#[45]⟩ : ByteArray), .string (⟨#[120]⟩ : ByteArray), .string (⟨#[49]⟩ : ByteArray), .string (⟨#[57]⟩ : ByteArray), .string (⟨#[46]⟩ : ByteArray)]) (ok := fun _ => True) (okp := fun _ => True) ?hr ?hp (fun _ hk => hk) trivial (Below.refl _ _) (Nat.le_refl _) (by simp) ?_; (case hd => rfl); (case hg => rfl); (case hr => first | (go_simp; done) | (go_simp; rfl)); (case hp => exact (Reps.one (show Kd.M Kd.string _ _ _ (⟨#[32]⟩ : ByteArray) [.string (⟨#[32]⟩ : ByteArray)] from rfl) (Reps.one (show Kd.M Kd.string _ _ _ (⟨#[48]⟩ : ByteArray) [.string (⟨#[48]⟩ : ByteArray)] from rfl) (Reps.one (show Kd.M Kd.string _ _ _ (⟨#[45]⟩ : ByteArray) [.string (⟨#[45]⟩ : ByteArray)] from rfl) (Reps.one (show Kd.M Kd.string _ _ _ (⟨#[120]⟩ : ByteArray) [.string (⟨#[120]⟩ : ByteArray)] from rfl) (Reps.one (show Kd.M Kd.string _ _ _ (⟨#[49]⟩ : ByteArray) [.string (⟨#[49]⟩ : ByteArray)] from rfl) (Reps.one (show Kd.M Kd.string _ _ _ (⟨#[57]⟩ : ByteArray) [.string (⟨#[57]⟩ : ByteArray)] from rfl) (Reps.one (show Kd.M Kd.string _ _ _ (⟨#[46]⟩ : ByteArray) [.string (⟨#[46]⟩ : ByteArray)] from rfl) (Reps.none _ _)))))))))
      intro v413 w16 ho17 hb hg_ hnew_
      clear hg_ hnew_
      (first | rw [← Ny412.out] at ho17 | (simp only [Int.reduceToNat] at ho17; rw [← Ny412.out] at ho17))
      have n0_ := aa (bd ho17 (keep_size (w := w) (g := g) (row := none) (by repeat (first | (with_reducible first | exact HK.out | apply KeepBut.set_ | apply au | apply ax | apply av) | exact HK.out))))
      have n1_ := aa (IsS102.below (by repeat (first | (with_reducible first | exact HI0.out | apply IsS102.alloc | apply IsS102.drewN | apply IsS102.drew | apply IsS102.set_1 | apply IsS102.set_2) | exact HI0.out)) hb)
      have n2_ := aa (KeepBut.trans (by repeat (first | (with_reducible first | exact HK.out | apply KeepBut.set_ | apply au | apply ax | apply av) | exact HK.out)) (KeepBut.of_below hb g none) (.inl rfl))
      have n3_ := aa (ay (by repeat (first | (with_reducible first | exact HB.out | apply ah | apply ae | apply ag | refine ao ?_ (IsS102.ge HI0.out)) | exact HB.out)) hb)
      clear HI0
      clear HK
      clear HB
      have HO414 := n0_
      have HI0 := n1_
      have HK := n2_
      have HB := n3_
      clear n0_ n1_ n2_ n3_
      clear hb ho17
      obtain ⟨Ao18, co18, eo18⟩ := ap HO414.out
      (first | subst eo18 | (injection eo18 with f1_ f2_ f3_; have f4_ := f1_.symm; have f5_ := f3_.symm; clear f1_ f2_ f3_; subst f4_; subst f5_))
      refine hK.out _ _ trivial (fun hHeld => ?_)
      clear hK K
      refine norm_ (a' := ?_) ?_ ?_
      rotate_left
      ·show Act.put _ (some 20) _ = _
       simp only [Act.put, List.setIfInBounds_toArray, List.set_cons_zero, List.set_cons_succ, i64_w, i32_w]
       rfl
      refine one_ (i := 5) (N := some 21) #[true, true, true, true, true, true, false, true, true, true, false, false] rfl rfl (one_of HT_.out (by kernel_rfl)) (by decide) (fun K hK => ?_)
      refine goes_ Try.func116 (by kernel_rfl) rfl #[.pointer (some ⟨g, 0, none⟩), .slice Ao18 y412.length co18] (by rfl) rfl rfl (by (try simp only [List.map_toArray, List.map_cons, List.map_nil]); first | done | rfl | (simp only [List.length_drop, List.length_take]; rfl)) ?_
      with_reducible refine (spec_l00Src_text.calls g s0_0 t410 t411 _ _ y412 t415 t416 t417 w0 _ ?side1 ?side2 ?side3 ?side4 ?side5 A8.out).mono ?_
      (case side1 => repeat (first | (with_reducible first | exact HI0.out | apply IsS102.alloc | apply IsS102.drewN | apply IsS102.drew | apply IsS102.set_1 | apply IsS102.set_2) | exact HI0.out))
      (case side2 => repeat (first | (with_reducible first | exact HB.out | apply ah | apply ae | apply ag | refine ao ?_ (IsS102.ge HI0.out)) | exact HB.out))
      (case side3 => repeat (first | exact (ai HO414.out).2.2 | (with_reducible refine ak ?_ _) | (with_reducible refine al ?_ _) | (with_reducible refine am ?_)))
      (case side4 => exact (ai HO414.out).2.1)
      (case side5 => exact far_slice (IsS102.own_ne HI0.out HO414.out (by decide)))
      rintro e w19 ⟨rfl, hi, hb, hk⟩
      refine ⟨_, rfl, ?_⟩
      have n0_ := aa (an (bf (IsS102.apart (show IsS102 w0 _ g s0_0 t410 t411 from by repeat (first | (with_reducible first | exact HI0.out | apply IsS102.alloc | apply IsS102.drewN | apply IsS102.drew | apply IsS102.set_1 | apply IsS102.set_2) | exact HI0.out)) (by (with_reducible repeat (first | apply ab | apply ac | apply af)); exact HO414.out) (by decide)) hk (fun _ h => h.2)) (fun _ h => h.1))
      have n1_ := aa (KeepBut.trans (by repeat (first | (with_reducible first | exact HK.out | apply KeepBut.set_ | apply au | apply ax | apply av) | exact HK.out)) hk (.inl rfl))
      have n2_ := aa (hb)
      have n3_ := aa (hi)
      clear HO414
      clear HK
      clear HB
      clear HI0
      have HO414 := n0_
      have HK := n1_
      have HB := n2_
      have HI0 := n3_
      clear n0_ n1_ n2_ n3_
      (try clear hb)
      (try clear hb2)
      (try clear hk)
      (try clear hi)
      refine hK.out _ _ trivial (fun hHeld => ?_)
      clear hK K
      refine norm_ (a' := ?_) ?_ ?_
      rotate_left
      ·show Act.put _ (some 21) _ = _
       simp only [Act.put, List.setIfInBounds_toArray, List.set_cons_zero, List.set_cons_succ, i64_w, i32_w]
       rfl
      refine pure_ (i := 6) (N := some 22) (v := ?_) (a' := ?_) #[true, true, true, true, true, true, true, true, true, true, false, false] rfl rfl (any_of HT_.out (by kernel_rfl)) (fun _ _ _ h => h) (Or.inl ⟨by rfl, ?_⟩) ?_ ?_
      rotate_left
      ·intro w'
       go_simp
       with_reducible rfl
      rotate_left
      ·simp only [Act.put, List.setIfInBounds_toArray, List.set_cons_zero, List.set_cons_succ, i64_w, i32_w]
       rfl
      refine pure_ (i := 10) (N := some 26) (v := ?_) (a' := ?_) #[true, true, true, true, true, true, true, true, true, true, true, false] rfl rfl (any_of HT_.out (by kernel_rfl)) (fun _ _ _ h => h) (Or.inl ⟨by rfl, ?_⟩) ?_ ?_
      rotate_left
      ·intro w'
       go_simp
       with_reducible rfl
      rotate_left
      ·simp only [Act.put, List.setIfInBounds_toArray, List.set_cons_zero, List.set_cons_succ, i64_w, i32_w]
       rfl
      refine pure_ (i := 11) (N := some 1) (v := ?_) (a' := ?_) #[true, true, true, true, true, true, true, true, true, true, true, true] rfl rfl (any_of HT_.out (by kernel_rfl)) (fun _ _ _ h => h) (Or.inl ⟨by rfl, ?_⟩) ?_ ?_
      rotate_left
      ·intro w'
       go_simp
       with_reducible rfl
      rotate_left
      ·simp only [Act.put, List.setIfInBounds_toArray, List.set_cons_zero, List.set_cons_succ, i64_w, i32_w]
       rfl
      refine done_ (done_of HT_.out (by kernel_rfl)) ?_
      try go_wp2
      go_ret
      exact ⟨by first | rfl | (simp [errW_none, errW_some] <;> rfl) | (simp [*, errW_none, errW_some] <;> rfl), by repeat (first | (with_reducible first | exact HI0.out | apply IsS102.alloc | apply IsS102.drewN | apply IsS102.drew | apply IsS102.set_1 | apply IsS102.set_2) | exact HI0.out), by repeat (first | (with_reducible first | exact HB.out | apply ah | apply ae | apply ag | refine ao ?_ (IsS102.ge HI0.out)) | exact HB.out), by repeat (first | (with_reducible first | exact HK.out | apply KeepBut.set_ | apply au | apply ax | apply av) | exact HK.out)⟩
     ·rw [if_neg c12] at H
      exact absurd H (by simp)
    ·rw [if_neg c9] at H
     exact absurd H (by simp)
   ·rw [if_neg c7] at H
    exact absurd H (by simp)
  ·rw [if_neg c6] at H
   exact absurd H (by simp)
 ·rw [if_neg c4] at H
  have c4b0 : (t406 == 0) = false := beq_eq_false_iff_ne.mpr c4
  have c4b1 : (t406 != 0) = true := bne_iff_ne.mpr c4
  by_cases c20 : t406 = 1
  ·rw [if_pos c20] at H
   have c20b0 : (t406 == 1) = true := beq_iff_eq.mpr c20
   have c20b1 : (t406 != 1) = false := bne_eq_false_iff_eq.mpr c20
   clear c20
   by_cases c21 : a1.toList = ([] : List UInt8)
   ·rw [if_pos c21] at H
    have c21b0 : (a1.toList == ([] : List UInt8)) = true := beq_iff_eq.mpr c21
    have c21b1 : (a1.toList != ([] : List UInt8)) = false := bne_eq_false_iff_eq.mpr c21
    clear c21
    simp only [Option.some.injEq, Prod.mk.injEq] at H
    obtain ⟨rfl, rfl, rfl⟩ := H
    go_enter Try.func89, Try.ntmps89
    go_wp2_with (first | ((with_reducible refine gate_callee (f := 88) rfl ?_); refine goesL_ (some 8) rfl rfl Try.func88 (by kernel_rfl) rfl #[.pointer (some ⟨g, 0, none⟩), .int .i64 5] rfl (by (try simp only [List.map_toArray, List.map_cons, List.map_nil]); first | done | rfl | (simp only [List.length_drop, List.length_take]; rfl)) ?_; (with_reducible refine (spec_l00Src_pick.calls g s0_0 s0_1 s0_2 5 t406 t407 t408 w0 _ ?side1 ?side2 A3.out).mono ?_); (case side1 => repeat (first | (with_reducible first | exact HI0.out | apply IsS102.alloc | apply IsS102.drewN | apply IsS102.drew | apply IsS102.set_1 | apply IsS102.set_2) | exact HI0.out)); (case side2 => repeat (first | (with_reducible first | exact HB.out | apply ah | apply ae | apply ag | refine ao ?_ (IsS102.ge HI0.out)) | exact HB.out)); rintro e w22 ⟨rfl, hi, hb, hk⟩; refine ⟨_, rfl, ?_⟩; have n0_ := aa (KeepBut.trans (by repeat (first | (with_reducible first | exact HK.out | apply KeepBut.set_ | apply au | apply ax | apply av) | exact HK.out)) hk (.inl rfl)); have n1_ := aa (hb); have n2_ := aa (hi); clear HK; clear HB; clear HI0; have HK := n0_; have HB := n1_; have HI0 := n2_; clear n0_ n1_ n2_; (try clear hb); (try clear hb2); (try clear hk); (try clear hi)))
    go_ret
    exact ⟨by first | rfl | (simp [errW_none, errW_some] <;> rfl) | (simp [*, errW_none, errW_some] <;> rfl), by repeat (first | (with_reducible first | exact HI0.out | apply IsS102.alloc | apply IsS102.drewN | apply IsS102.drew | apply IsS102.set_1 | apply IsS102.set_2) | exact HI0.out), by repeat (first | (with_reducible first | exact HB.out | apply ah | apply ae | apply ag | refine ao ?_ (IsS102.ge HI0.out)) | exact HB.out), by repeat (first | (with_reducible first | exact HK.out | apply KeepBut.set_ | apply au | apply ax | apply av) | exact HK.out)⟩
   ·rw [if_neg c21] at H
    have c21b0 : (a1.toList == ([] : List UInt8)) = false := beq_eq_false_iff_ne.mpr c21
    have c21b1 : (a1.toList != ([] : List UInt8)) = true := bne_iff_ne.mpr c21
    replace H := bm.mp H
    obtain ⟨⟨t418, t419, t420⟩, A230, H⟩ := H
    (try dsimp only at H)
    have A23 := aa A230
    clear A230
    by_cases c24 : 0 ≤ t418
    ·rw [if_pos c24] at H
     have c24b0 := eq_true c24
     have c24b1 : decide (0 ≤ t418) = true := decide_eq_true c24
     clear c24
     by_cases c25 : t418 ≤ (a1.size : Int)
     ·rw [if_pos c25] at H
      have c25b0 := eq_true c25
      have c25b1 : decide (t418 ≤ (a1.size : Int)) = true := decide_eq_true c25
      clear c25
      obtain ⟨ji26, hji26⟩ : ∃ j_ : Int, (wrap64 (t418 + 1)) = j_ := ⟨_, rfl⟩
      replace H : (if 0 ≤ (ji26) then (if (ji26) ≤ (a1.size : Int) then (if (a1.extract 0 (t418 : Int).toNat).size + (a1.extract ((ji26) : Int).toNat a1.size).size ≤ 9223372036854775807 then (some ((a1.extract 0 (t418 : Int).toNat) ++ (a1.extract ((ji26) : Int).toNat a1.size), t419, t420)) else (none)) else (none)) else (none)) = some (r1, r2, r3) := by first | (rw [hji26] at H; exact H) | (simp only [hji26] at H ⊢; exact H)
      (try rw [hji26] at A3)
      (try rw [hji26] at A23)
      have hji26w : (IntKind.i64.wrap (t418 + 1)) = ji26 := (i64_w _).trans hji26
      by_cases c27 : 0 ≤ (ji26)
      ·rw [if_pos c27] at H
       have c27b0 := eq_true c27
       have c27b1 : decide (0 ≤ (ji26)) = true := decide_eq_true c27
       clear c27
       by_cases c28 : (ji26) ≤ (a1.size : Int)
       ·rw [if_pos c28] at H
        have c28b0 := eq_true c28
        have c28b1 : decide ((ji26) ≤ (a1.size : Int)) = true := decide_eq_true c28
        clear c28
        by_cases c29 : (a1.extract 0 (t418 : Int).toNat).size + (a1.extract ((ji26) : Int).toNat a1.size).size ≤ 9223372036854775807
        ·rw [if_pos c29] at H
         have c29b0 := eq_true c29
         have c29b1 : decide ((a1.extract 0 (t418 : Int).toNat).size + (a1.extract ((ji26) : Int).toNat a1.size).size ≤ 9223372036854775807) = true := decide_eq_true c29
         try have c29b2 : (9223372036854775807 < (a1.extract 0 (t418 : Int).toNat).size + (a1.extract ((ji26) : Int).toNat a1.size).size) = False := eq_false (Nat.not_lt.2 c29)
         have c29b3 : (9223372036854775807 < (t418).toNat + (a1.size - ((ji26)).toNat)) = False := eq_false (by have h_ := c29; simp only [ByteArray.size_append, ByteArray.size_extract] at h_; have q_c24 := of_eq_true c24b0; have q_c25 := of_eq_true c25b0; have q_c27 := of_eq_true c27b0; have q_c28 := of_eq_true c28b0; omega)
         simp only [Option.some.injEq, Prod.mk.injEq] at H
         obtain ⟨rfl, rfl, rfl⟩ := H
         go_enter Try.func89, Try.ntmps89
         try go_wp2_with (first | ((with_reducible refine gate_callee (f := 88) rfl ?_); refine goesL_ (some 8) rfl rfl Try.func88 (by kernel_rfl) rfl #[.pointer (some ⟨g, 0, none⟩), .int .i64 5] rfl (by (try simp only [List.map_toArray, List.map_cons, List.map_nil]); first | done | rfl | (simp only [List.length_drop, List.length_take]; rfl)) ?_; (with_reducible refine (spec_l00Src_pick.calls g s0_0 s0_1 s0_2 5 t406 t407 t408 w0 _ ?side1 ?side2 A3.out).mono ?_); (case side1 => repeat (first | (with_reducible first | exact HI0.out | apply IsS102.alloc | apply IsS102.drewN | apply IsS102.drew | apply IsS102.set_1 | apply IsS102.set_2) | exact HI0.out)); (case side2 => repeat (first | (with_reducible first | exact HB.out | apply ah | apply ae | apply ag | refine ao ?_ (IsS102.ge HI0.out)) | exact HB.out)); rintro e w30 ⟨rfl, hi, hb, hk⟩; refine ⟨_, rfl, ?_⟩; have n0_ := aa (KeepBut.trans (by repeat (first | (with_reducible first | exact HK.out | apply KeepBut.set_ | apply au | apply ax | apply av) | exact HK.out)) hk (.inl rfl)); have n1_ := aa (hb); have n2_ := aa (hi); clear HK; clear HB; clear HI0; have HK := n0_; have HB := n1_; have HI0 := n2_; clear n0_ n1_ n2_; (try clear hb); (try clear hb2); (try clear hk); (try clear hi)) | ((with_reducible refine gate_callee (f := 88) rfl ?_); refine goesL_ (some 34) rfl rfl Try.func88 (by kernel_rfl) rfl #[.pointer (some ⟨g, 0, none⟩), .int .i64 (a1.size : Int)] rfl (by (try simp only [List.map_toArray, List.map_cons, List.map_nil]); first | done | rfl | (simp only [List.length_drop, List.length_take]; rfl)) ?_; (with_reducible refine (spec_l00Src_pick.calls g s0_0 t407 t408 (a1.size : Int) t418 t419 t420 w0 _ ?side1 ?side2 A23.out).mono ?_); (case side1 => repeat (first | (with_reducible first | exact HI0.out | apply IsS102.alloc | apply IsS102.drewN | apply IsS102.drew | apply IsS102.set_1 | apply IsS102.set_2) | exact HI0.out)); (case side2 => repeat (first | (with_reducible first | exact HB.out | apply ah | apply ae | apply ag | refine ao ?_ (IsS102.ge HI0.out)) | exact HB.out)); rintro e w31 ⟨rfl, hi, hb, hk⟩; refine ⟨_, rfl, ?_⟩; have n0_ := aa (KeepBut.trans (by repeat (first | (with_reducible first | exact HK.out | apply KeepBut.set_ | apply au | apply ax | apply av) | exact HK.out)) hk (.inl rfl)); have n1_ := aa (hb); have n2_ := aa (hi); clear HK; clear HB; clear HI0; have HK := n0_; have HB := n1_; have HI0 := n2_; clear n0_ n1_ n2_; (try clear hb); (try clear hb2); (try clear hk); (try clear hi)))
         have n0_ := aa (IsS102.drew HI0.out)
         have n1_ := aa (ax HK.out)
         have n2_ := aa (ag HB.out)
         clear HI0
         clear HK
         clear HB
         have HI0 := n0_
         have HK := n1_
         have HB := n2_
         clear n0_ n1_ n2_
         refine start_ (n := 9) (S := fun w' => True) (ds := []) #[false, false, false, false, false, false, false, false, false] (by kernel_rfl) rfl rfl trivial (fun hHeld => ?_); refine with_tabW spec_l01Spoil.tab8 spec_l01Spoil.bits8 (fun HT_ HW_ => ?_)
         generalize w31.drew = w32 at HI0 HK HB hHeld ⊢
         refine pure_ (i := 0) (N := some 35) (v := ?_) (a' := ?_) #[true, false, false, false, false, false, false, false, false] rfl rfl (any_of HT_.out (by kernel_rfl)) (fun _ _ _ h => h) (Or.inl ⟨by rfl, ?_⟩) ?_ ?_
         rotate_left
         ·intro w'
          go_simp
          with_reducible rfl
         rotate_left
         ·simp only [Act.put, List.setIfInBounds_toArray, List.set_cons_zero, List.set_cons_succ, i64_w, i32_w]
          rfl
         refine pure_ (i := 1) (N := some 36) (v := ?_) (a' := ?_) #[true, true, false, false, false, false, false, false, false] rfl rfl (any_of HT_.out (by kernel_rfl)) (fun _ _ _ h => h) (Or.inl ⟨by rfl, ?_⟩) ?_ ?_
         rotate_left
         ·intro w'
          go_simp
          with_reducible rfl
         rotate_left
         ·simp only [Act.put, List.setIfInBounds_toArray, List.set_cons_zero, List.set_cons_succ, i64_w, i32_w]
          rfl
         refine pure_ (i := 2) (N := some 37) (v := ?_) (a' := ?_) #[true, true, true, false, false, false, false, false, false] rfl rfl (any_of HT_.out (by kernel_rfl)) (fun _ _ _ h => h) (Or.inl ⟨by rfl, ?_⟩) ?_ ?_
         rotate_left
         ·intro w'
          go_simp
          with_reducible rfl
         rotate_left
         ·simp only [Act.put, List.setIfInBounds_toArray, List.set_cons_zero, List.set_cons_succ, i64_w, i32_w]
          rfl
         refine pure_ (i := 3) (N := some 38) (v := ?_) (a' := ?_) #[true, true, true, true, false, false, false, false, false] rfl rfl (any_of HT_.out (by kernel_rfl)) (fun _ _ _ h => h) (Or.inl ⟨by rfl, ?_⟩) ?_ ?_
         rotate_left
         ·intro w'
          go_simp
          with_reducible rfl
         rotate_left
         ·simp only [Act.put, List.setIfInBounds_toArray, List.set_cons_zero, List.set_cons_succ, i64_w, i32_w]
          rfl
         refine pure_ (i := 4) (N := some 39) (v := ?_) (a' := ?_) #[true, true, true, true, true, false, false, false, false] rfl rfl (any_of HT_.out (by kernel_rfl)) (fun _ _ _ h => h) (Or.inl ⟨by rfl, ?_⟩) ?_ ?_
         rotate_left
         ·intro w'
          go_simp
          with_reducible rfl
         rotate_left
         ·simp only [Act.put, List.setIfInBounds_toArray, List.set_cons_zero, List.set_cons_succ, i64_w, i32_w]
          rfl
         refine pure_ (i := 5) (N := some 40) (v := ?_) (a' := ?_) #[true, true, true, true, true, true, false, false, false] rfl rfl (any_of HT_.out (by kernel_rfl)) (fun _ _ _ h => h) (Or.inl ⟨by rfl, ?_⟩) ?_ ?_
         rotate_left
         ·intro w'
          go_simp
          with_reducible rfl
         rotate_left
         ·simp only [Act.put, List.setIfInBounds_toArray, List.set_cons_zero, List.set_cons_succ, i64_w, i32_w]
          rfl
         refine pure_ (i := 6) (N := some 41) (v := ?_) (a' := ?_) #[true, true, true, true, true, true, true, false, false] rfl rfl (any_of HT_.out (by kernel_rfl)) (fun _ _ _ h => h) (Or.inl ⟨by rfl, ?_⟩) ?_ ?_
         rotate_left
         ·intro w'
          go_simp
          with_reducible rfl
         rotate_left
         ·simp only [Act.put, List.setIfInBounds_toArray, List.set_cons_zero, List.set_cons_succ, i64_w, i32_w]
          rfl
         refine pure_ (i := 7) (N := some 42) (v := ?_) (a' := ?_) #[true, true, true, true, true, true, true, true, false] rfl rfl (any_of HT_.out (by kernel_rfl)) (fun _ _ _ h => h) (Or.inl ⟨by rfl, ?_⟩) ?_ ?_
         rotate_left
         ·intro w'
          go_simp
          with_reducible rfl
         rotate_left
         ·simp only [Act.put, List.setIfInBounds_toArray, List.set_cons_zero, List.set_cons_succ, i64_w, i32_w]
          rfl
         refine pure_ (i := 8) (N := some 1) (v := ?_) (a' := ?_) #[true, true, true, true, true, true, true, true, true] rfl rfl (any_of HT_.out (by kernel_rfl)) (fun _ _ _ h => h) (Or.inl ⟨by rfl, ?_⟩) ?_ ?_
         rotate_left
         ·intro w'
          go_simp
          with_reducible rfl
         rotate_left
         ·simp only [Act.put, List.setIfInBounds_toArray, List.set_cons_zero, List.set_cons_succ, i64_w, i32_w]
          rfl
         refine done_ (done_of HT_.out (by kernel_rfl)) ?_
         try go_wp2
         go_ret
         exact ⟨by first | rfl | (simp [errW_none, errW_some] <;> rfl) | (simp only [← hji26]; first | rfl | (simp [errW_none, errW_some] <;> rfl)) | (simp [*, errW_none, errW_some] <;> rfl), by repeat (first | (with_reducible first | exact HI0.out | apply IsS102.alloc | apply IsS102.drewN | apply IsS102.drew | apply IsS102.set_1 | apply IsS102.set_2) | exact HI0.out), by repeat (first | (with_reducible first | exact HB.out | apply ah | apply ae | apply ag | refine ao ?_ (IsS102.ge HI0.out)) | exact HB.out), by repeat (first | (with_reducible first | exact HK.out | apply KeepBut.set_ | apply au | apply ax | apply av) | exact HK.out)⟩
        ·rw [if_neg c29] at H
         exact absurd H (by simp)
       ·rw [if_neg c28] at H
        exact absurd H (by simp)
      ·rw [if_neg c27] at H
       exact absurd H (by simp)
     ·rw [if_neg c25] at H
      exact absurd H (by simp)
    ·rw [if_neg c24] at H
     exact absurd H (by simp)
  ·rw [if_neg c20] at H
   have c20b0 : (t406 == 1) = false := beq_eq_false_iff_ne.mpr c20
   have c20b1 : (t406 != 1) = true := bne_iff_ne.mpr c20
   simp only [Option.some.injEq, Prod.mk.injEq] at H
   obtain ⟨rfl, rfl, rfl⟩ := H
   go_enter Try.func89, Try.ntmps89
   go_wp2_with (first | ((with_reducible refine gate_callee (f := 88) rfl ?_); refine goesL_ (some 8) rfl rfl Try.func88 (by kernel_rfl) rfl #[.pointer (some ⟨g, 0, none⟩), .int .i64 5] rfl (by (try simp only [List.map_toArray, List.map_cons, List.map_nil]); first | done | rfl | (simp only [List.length_drop, List.length_take]; rfl)) ?_; (with_reducible refine (spec_l00Src_pick.calls g s0_0 s0_1 s0_2 5 t406 t407 t408 w0 _ ?side1 ?side2 A3.out).mono ?_); (case side1 => repeat (first | (with_reducible first | exact HI0.out | apply IsS102.alloc | apply IsS102.drewN | apply IsS102.drew | apply IsS102.set_1 | apply IsS102.set_2) | exact HI0.out)); (case side2 => repeat (first | (with_reducible first | exact HB.out | apply ah | apply ae | apply ag | refine ao ?_ (IsS102.ge HI0.out)) | exact HB.out)); rintro e w33 ⟨rfl, hi, hb, hk⟩; refine ⟨_, rfl, ?_⟩; have n0_ := aa (KeepBut.trans (by repeat (first | (with_reducible first | exact HK.out | apply KeepBut.set_ | apply au | apply ax | apply av) | exact HK.out)) hk (.inl rfl)); have n1_ := aa (hb); have n2_ := aa (hi); clear HK; clear HB; clear HI0; have HK := n0_; have HB := n1_; have HI0 := n2_; clear n0_ n1_ n2_; (try clear hb); (try clear hb2); (try clear hk); (try clear hi)))
   go_ret
   exact ⟨by first | rfl | (simp [errW_none, errW_some] <;> rfl) | (simp [*, errW_none, errW_some] <;> rfl), by repeat (first | (with_reducible first | exact HI0.out | apply IsS102.alloc | apply IsS102.drewN | apply IsS102.drew | apply IsS102.set_1 | apply IsS102.set_2) | exact HI0.out), by repeat (first | (with_reducible first | exact HB.out | apply ah | apply ae | apply ag | refine ao ?_ (IsS102.ge HI0.out)) | exact HB.out), by repeat (first | (with_reducible first | exact HK.out | apply KeepBut.set_ | apply au | apply ax | apply av) | exact HK.out)⟩

end Go.Proofs.Ytfajacoagaamlaa.QFnRepairs
