/- Walks of the Go functions that the law FnTopOfAll reaches: written by a program of this session. -/
import Derived.Test.YtmgljagkmaoopaaGreatQFnTopOfAllx0
import Derived.Test.YtmgljagkmaoopaaGreatQFnTopOfAllx3
import Derived.Test.YtmgljagkmaoopaaGreatQFnTopOfAllx9
namespace Go.Proofs.YtmgljagkmaoopaaGreat.QFnTopOfAll
open Go.RowKit Go.Proofs.YtmgljagkmaoopaaGreatW.PrintWords Go.Proofs.YtmgljagkmaoopaaGreatW.PrintLast Go.Proofs.YtmgljagkmaoopaaGreatW.PrintMore
attribute [local go_sem] max2_int min2_int max_two min_two max_three min_three max_four min_four
open Go.Proofs.YtmgljagkmaoopaaGreatW.PrintWords renaming below_alloc → ae, below_drew1 → ac, below_set → ak, below_size → al, below_step → af, blk_alloc → am, blk_cell → ap, blk_drew → aq, blk_drewN → an, blk_frozen → ao, box_event → bb, gate_dst → az, pw_below_drewN → ab
open Go.Proofs.YtmgljagkmaoopaaGreatW.PrintWords.Aside0 renaming mk → aa
open Go.Proofs.YtmgljagkmaoopaaGreatW.PrintWords.Kd renaming C_alloc → ar, C_below → ay, C_drew → av, C_drewN → au, R_alloc → ah, R_below → be, R_drew → ai, R_drewN → ag, R_lower → bd, R_mono → bc, R_reads' → aw, at_int → ax
open Option renaming bind_eq_some_iff → bf
open List renaming length_drop → b0, length_take → b2, map_cons → b4, map_nil → b5, map_toArray → b3
open Option renaming bind_some → b6
set_option linter.unusedVariables false
set_option linter.unusedSimpArgs false
def slices_Clone_int64_int64.f (l0 : List Int) : Option (List Int) := if l0.length < 17592186044416 then some l0 else none
set_option maxHeartbeats 4000000 in
set_option maxRecDepth 100000 in
theorem slices_Clone_int64_int64.calls (A0 : Option Addr) (c0 : Nat) (l0 : List Int) (r : List Int) (w : World) (hr0 : Kd.C (Kd.int .i64) w A0 l0.length l0) (hc0 : l0.length ≤ c0) (h : slices_Clone_int64_int64.f l0 = some r) :
  Calls Tryz.prog 72 #[.slice A0 l0.length c0] w fun e w' => ∃ v0_ : Value, e = .returned (v0_) ∧ Kd.R (Kd.int .i64) 2 w' w.heap.size (fun _ => True) v0_ r ∧ Below w.heap.size w w' := by
 unfold slices_Clone_int64_int64.f at h; by_cases hl : l0.length < 17592186044416
 case neg => rw [if_neg hl] at h; exact absurd h (by simp)
 rw [if_pos hl] at h; obtain rfl := Option.some.inj h; clear h
 cases A0 with
 | none =>
  have h0 : l0 = [] := by
   cases l0 with
   | nil => rfl
   | cons x l => obtain ⟨ad, ha, _⟩ := hr0.2.2 (by simp); cases ha
  subst h0; clear hr0 hc0 hl; (have q22 : ∀ (w : World) (a : Option Addr) (n c n' c' : Nat), (binOp .eql 27 (.slice a n c) (.slice none n' c')).run Tryz.prog w = .ok (.bool a.isNone) w := fun w a n c n' c' => Lib.run_eql_slice_nil w _ _ a n c n' c' Tryz.underlying27); go_enter Tryz.func72, Tryz.ntmps72; go_wp2; go_ret; exact ⟨_, rfl, Kd.R_nil _ _ _ _ _, Below.refl _ _⟩
 | some ad =>
  have HR0 := aa hr0; have HC0 := aa hc0; have HL := aa hl; clear hr0 hc0 hl; have HB := aa (Below.refl w.heap.size w); (have q22 : ∀ (w : World) (a : Option Addr) (n c n' c' : Nat), (binOp .eql 27 (.slice a n c) (.slice none n' c')).run Tryz.prog w = .ok (.bool a.isNone) w := fun w a n c n' c' => Lib.run_eql_slice_nil w _ _ a n c n' c' Tryz.underlying27); go_enter Tryz.func72, Tryz.ntmps72
  go_wp2_with (first | ((with_reducible refine az (N := 5) rfl ?_); refine Kd.R_lit (Kd.int .i64) _ 2 ?hg (N := 5) ?hd (xs := ([] : List Int)) (inner := []) (ok := fun _ => True) (okp := fun _ => True) ?hr ?hp (fun _ hk => hk) trivial (Below.refl _ _) (Nat.le_refl _) (by simp) ?_; (case hd => rfl); (case hg => rfl); (case hr => first | (go_simp; done) | (go_simp; rfl)); (case hp => exact (Reps.none _ _)); intro v5 w3 ho4 hb hg_ hnew_; clear hg_ hnew_; have n0_ := aa ho4; have n1_ := aa (af (by repeat (first | (with_reducible first | exact HB.out | apply ae | apply ab | apply ac) | exact HB.out)) hb); clear HB; have HO5 := n0_; have HB := n1_; clear n0_ n1_; clear hb ho4) | ((with_reducible refine gate_builtin (b := .append) (xs := #[.tmp 5, .tmp 6]) rfl ?_); at_builtin; refine Kd.R_append_rows (Kd.int .i64) (w0 := w) w.heap.size rfl (.tmp 5) (.tmp 6) 27 2 (.int .i64 0) 8 rfl Tryz.underlying27 info2 rfl (by decide) (by omega) v5 ([] : List Int) l0 _ _ _ (fun _ => True) (fun _ => False) rfl rfl ?aO ?aR (fun _ _ h => h) (fun _ h => h.elim) ?aF ?aB ?aS ?aL ?_; (case aR => repeat (first | exact (ay HR0.out HB.out) | (with_reducible refine ar ?_ _) | (with_reducible refine au ?_ _) | (with_reducible refine av ?_))); (case aB => exact (by repeat (first | (with_reducible first | exact HB.out | apply ae | apply ab | apply ac) | exact HB.out))); (case aF => exact (fun _ _ => trivial)); (case aO => exact (by (with_reducible repeat (first | apply ah | apply ag | apply ai)); exact HO5.out)); (case aS => exact (al (by repeat (first | (with_reducible first | exact HB.out | apply ae | apply ab | apply ac) | exact HB.out)))); (case aL => have := HL.out; simp; omega); intro v7 w5 ho hb hg hat; have n0_ := aa (hb); have n1_ := aa (ho); clear HB; clear HO5; have HB := n0_; have HO7 := n1_; clear n0_ n1_; clear ho hb hg hat))
  go_ret; exact ⟨_, rfl, by (with_reducible repeat (first | apply ah | apply ag | apply ai)); exact HO7.out, by repeat (first | (with_reducible first | exact HB.out | apply ae | apply ab | apply ac) | exact HB.out)⟩
def ascL (l : List Int) : List Int := Lib.compactUpTo (l.mergeSort fun x y => decide (x ≤ y)).toArray l.length
def impl_ascending.f (l0 : List Int) : Option (List Int) := if l0.length < 17592186044416 then some (ascL l0) else none
set_option maxHeartbeats 1000000 in
theorem compact_few (p : Option Addr) (c : Nat) (w : World) : Calls Tryz.prog 108 #[.slice p 0 c] w fun e w' => e = .returned (.slice p 0 c) ∧ w' = w := by
 go_enter Tryz.func108, Tryz.ntmps108; go_wp2; go_ret; exact ⟨rfl, rfl⟩
theorem asc_len (l : List Int) : (ascL l).length ≤ l.length := by
 unfold ascL Lib.compactUpTo; rw [List.length_map]; exact Nat.le_trans (List.length_filter_le _ _) (by simp)
set_option maxHeartbeats 4000000 in
theorem sort_compact (g c1 base : Nat) (l0 : List Int) (w1 : World) (hp : 0 < l0.length) (hl : l0.length < 17592186044416) (h : Kd.R (Kd.int .i64) 2 w1 base (fun _ => True) (.slice (some ⟨g, 0, none⟩) l0.length c1) l0) :
  Calls Tryz.prog 107 #[.slice (some ⟨g, 0, none⟩) l0.length c1] w1 fun e w2 => e = .returned (.tuple #[]) ∧ Below base w1 w2 ∧ Calls Tryz.prog 108 #[.slice (some ⟨g, 0, none⟩) l0.length c1] w2 fun e w3 => ∃ v, e = .returned v ∧ Kd.R (Kd.int .i64) 2 w3 base (fun _ => True) v (ascL l0) ∧ Below base w1 w3 := by
 have ho : w1.ownsRow base 2 1 (.slice (some ⟨g, 0, none⟩) l0.length c1) l0.length (l0.map (Value.int .i64)) := Kd.own_of_R h; (have hv : (Value.slice (some ⟨g, 0, none⟩) l0.length c1) ≠ .slice none 0 0 := by simp); obtain ⟨g', cap', e, hbase, hlt, hn, hm, _, hH⟩ := Lib.holds_of_ownsRow (enc := Value.int .i64) ho hv; injection e with e1 _ e3; injection e1 with e1; injection e1 with e1; subst e1; subst e3; have hsl : (l0.mergeSort fun x y => decide (x ≤ y)).length = l0.length := List.length_mergeSort _; refine (AnyM.slices_Sort_int Tryz.sort70 g 0 c1 l0 w1 hH hlt (by omega)).mono ?_; rintro e w2 ⟨rfl, n, os, rfl⟩
 have hcell : ∃ cur, w1.heap[g]? = some (.cells cur 2 (0, 0)) ∧ cur.size = c1 * 1 := by
  rcases ho.2 with ⟨h0, _⟩ | ⟨g', cap, cur, h0, _, hb, _, _, hs, _⟩
  ·cases h0
  ·injection h0 with e1 _ e3; injection e1 with e1; injection e1 with e1; subst e1; subst e3; exact ⟨cur, hb, hs⟩
 obtain ⟨cur, hcur, hcs⟩ := hcell; have ho2 := ownsRow_sortedI (n := n) (os := os) hsl hbase hcur hn hm hcs; have hb2 : Below base w1 (Sort.grow (Sort.putRow (Value.int .i64) (Sort.ahead w1 n) g 0 (l0.mergeSort fun x y => decide (x ≤ y)).toArray) os) := (Below.refl base w1).grown (grownBy_sortedI _) (by omega) (fun j e => by cases e; exact hbase); refine ⟨rfl, hb2, ?_⟩; generalize Sort.grow (Sort.putRow (Value.int .i64) (Sort.ahead w1 n) g 0 (l0.mergeSort fun x y => decide (x ≤ y)).toArray) os = w2 at ho2 hb2 ⊢; unfold ascL; generalize (l0.mergeSort fun x y => decide (x ≤ y)) = S at hsl ho2 ⊢; obtain ⟨g', cap', e, _, hlt2, _, _, _, hH2⟩ := Lib.holds_of_ownsRow (enc := Value.int .i64) ho2 hv; injection e with e1 _ e3; injection e1 with e1; injection e1 with e1; subst e1; subst e3; have hc := AnyE.slices_Compact Tryz.compact71 (Value.int .i64) (fun _ => rfl) (EqlAt.intD _ _ .i64) (NeqAt.intD _ _ .i64) 0 Tryz.zeroValue2 g 0 c1 S.toArray w2 hH2 (by simp; omega) (by simp; omega); rw [show S.toArray.size = l0.length from by simpa using hsl] at hc; refine hc.mono ?_; rintro e w3 ⟨rfl, q, rfl⟩
 have hcl : (Lib.compactUpTo S.toArray l0.length).length ≤ l0.length := by
  unfold Lib.compactUpTo; rw [List.length_map]; exact Nat.le_trans (List.length_filter_le _ _) (by simp)
 generalize Lib.compactUpTo S.toArray l0.length = C at hcl ⊢; have ho3 := Lib.ownsRow_putRow (q := q) (k := C.length) (ys := C ++ List.replicate (l0.length - C.length) 0) ho2 (by simp; omega) hcl; rw [List.take_left'  rfl] at ho3; exact ⟨_, rfl, Kd.R_of_own ho3 (fun _ _ => trivial), Lib.below_putRow hb2 hbase⟩
set_option maxHeartbeats 4000000 in
set_option maxRecDepth 100000 in
theorem impl_ascending.calls (A0 : Option Addr) (c0 : Nat) (l0 : List Int) (r : List Int) (w : World) (hr0 : Kd.C (Kd.int .i64) w A0 l0.length l0) (hc0 : l0.length ≤ c0) (h : impl_ascending.f l0 = some r) :
  Calls Tryz.prog 100 #[.slice A0 l0.length c0] w fun e w' => ∃ v0_ : Value, e = .returned (v0_) ∧ Kd.R (Kd.int .i64) 2 w' w.heap.size (fun _ => True) v0_ r ∧ Below w.heap.size w w' := by
 unfold impl_ascending.f at h; by_cases hl : l0.length < 17592186044416
 case neg => rw [if_neg hl] at h; exact absurd h (by simp)
 rw [if_pos hl] at h; obtain rfl := Option.some.inj h; clear h; have hcl := slices_Clone_int64_int64.calls A0 c0 l0 l0 w hr0 hc0 (by unfold slices_Clone_int64_int64.f; rw [if_pos hl]); by_cases h0 : l0 = []
 ·subst h0; have he : ascL [] = [] := rfl; rw [he]; have HB := aa (Below.refl w.heap.size w); have HCL := aa hcl; clear hcl hr0 hc0; go_enter Tryz.func100, Tryz.ntmps100
  go_wp2_with (first | (go_at_call 72; refine HCL.out.mono ?_; rintro e w1 ⟨v1, rfl, hr, hb⟩; obtain ⟨A1, c1, rfl⟩ := Kd.R_slice hr; have HR := aa hr; have HB1 := aa hb; clear hr hb; rw [List.length_nil] at HR ⊢) | (go_at_call 107; refine (AnyM.slices_Sort_int_none Tryz.sort70 _ _ _).mono ?_; rintro e w2 ⟨rfl, rfl⟩) | (go_at_call 108; refine (compact_few _ _ _).mono ?_; rintro e w3 ⟨rfl, rfl⟩))
  go_ret; exact ⟨_, rfl, HR.out, HB1.out⟩
 ·have hp : 0 < l0.length := List.length_pos_iff.2 h0; have HCL := aa hcl; have HP := aa hp; have HL := aa hl; clear hcl hr0 hc0 h0 hp hl; go_enter Tryz.func100, Tryz.ntmps100
  go_wp2_with (first | (go_at_call 72; refine HCL.out.mono ?_; rintro e w1 ⟨v1, rfl, hr, hb⟩; obtain ⟨g, c1, rfl, _⟩ := Kd.R_form hr HP.out; have HSC := aa (sort_compact g c1 w.heap.size l0 w1 HP.out HL.out hr); have HB1 := aa hb; clear hr hb) | (go_at_call 107; refine HSC.out.mono ?_; rintro e w2 ⟨rfl, _, hc⟩; have HC := aa hc; clear hc) | (go_at_call 108; refine HC.out.mono ?_; rintro e w3 ⟨v3, rfl, hr, hb⟩; have HR := aa hr; have HB3 := aa hb; clear hr hb))
  go_ret; exact ⟨_, rfl, HR.out, HB1.out.trans HB3.out⟩
def impl_neighboursOf.l0 : Nat → Int → List Int → List (S82) → Int → Int → Option (List Int)
 | 0, _, _, _, _, _ => none
 | k + 1, x1, x5, x9, x10, x11 => if x11 < x10 then (if 0 ≤ x11 then (if x11 < (x9.length : Int) then (if x1 = ((rd_T82 x9 x11).f0) then (if x5.length < 17592186044416 then (impl_neighboursOf.l0 k x1 (x5 ++ [(rd_T82 x9 x11).f1]) x9 x10 (wrap64 (x11 + 1))) else (none)) else (if x1 = ((rd_T82 x9 x11).f1) then (if x5.length < 17592186044416 then (impl_neighboursOf.l0 k x1 (x5 ++ [(rd_T82 x9 x11).f0]) x9 x10 (wrap64 (x11 + 1))) else (none)) else (impl_neighboursOf.l0 k x1 x5 x9 x10 (wrap64 (x11 + 1))))) else (none)) else (none)) else ((impl_ascending.f x5).bind fun t217 => (some t217))
def impl_neighboursOf.f (k : Nat) (l0 : List (S82)) (a1 : Int) : Option (List Int) := impl_neighboursOf.l0 k a1 (([] : List Int)) l0 (l0.length : Int) 0
theorem impl_neighboursOf.mono_l : ∀ k, (∀ y0 y1 y2 y3 y4, LeO (impl_neighboursOf.l0 k y0 y1 y2 y3 y4) (impl_neighboursOf.l0 (k + 1) y0 y1 y2 y3 y4))
 | 0 => fun _ _ _ _ _ r h => by simp [impl_neighboursOf.l0] at h
 | k + 1 => by
  have ih0 := impl_neighboursOf.mono_l k
  ·intro y0 y1 y2 y3 y4; unfold impl_neighboursOf.l0
   repeat' first
   | (with_reducible exact ih0 _ _ _ _ _)
   | (with_reducible exact LeO.refl _)
   | (with_reducible exact LeO.none _)
   | (with_reducible refine LeO.ite ?_ ?_)
   | (with_reducible refine LeO.bind ?_ (fun _ => ?_))
   | exact ih0 _ _ _ _ _
   | exact LeO.none _
   | refine LeO.ite ?_ ?_
   | refine LeO.bind ?_ (fun _ => ?_)
theorem impl_neighboursOf.mono : ∀ a0 a1 k, LeO (impl_neighboursOf.f k a0 a1) (impl_neighboursOf.f (k + 1) a0 a1) := by
 intro a0 a1 k; have ih0 := impl_neighboursOf.mono_l k; unfold impl_neighboursOf.f
 repeat' first
   | (with_reducible exact ih0 _ _ _ _ _)
   | (with_reducible exact LeO.refl _)
   | (with_reducible exact LeO.none _)
   | (with_reducible refine LeO.ite ?_ ?_)
   | (with_reducible refine LeO.bind ?_ (fun _ => ?_))
   | exact ih0 _ _ _ _ _
   | exact LeO.none _
   | refine LeO.ite ?_ ?_
   | refine LeO.bind ?_ (fun _ => ?_)
set_option maxHeartbeats 8000000 in
set_option maxRecDepth 100000 in
theorem impl_neighboursOf.calls (k : Nat) (A0 : Option Addr) (c0 : Nat) (l0 : List (S82)) (a1 : Int) (r : List Int) (w : World) (hr0 : Kd.C k82 w A0 l0.length l0) (hc0 : l0.length ≤ c0) (h : impl_neighboursOf.f k l0 a1 = some r) :
  Calls Tryz.prog 91 #[.slice A0 l0.length c0, .int .i64 a1] w fun e w' => ∃ v0_ : Value, e = .returned (v0_) ∧ Kd.R (Kd.int .i64) 2 w' w.heap.size (fun _ => True) v0_ r ∧ Below w.heap.size w w' := by
 have hu82 := Tryz.underlying82; have HR0 := aa hr0; have HC0 := aa hc0; clear hr0 hc0; have HB := aa (Below.refl w.heap.size w); have H : (impl_neighboursOf.l0 k a1 (([] : List Int)) l0 (l0.length : Int) 0) = some r := h; clear h; obtain ⟨y214, hy214⟩ : ∃ y_ : List Int, y_ = (([] : List Int)) := ⟨_, rfl⟩; (replace H : (impl_neighboursOf.l0 k a1 y214 l0 (l0.length : Int) 0) = some r := by first | (rw [hy214]; with_reducible exact H) | (have H2_ := (b6 _ _).symm.trans H; rw [hy214]; with_reducible exact H2_) | (have H2_ := (b6 _ _).symm.trans H; with_reducible exact H2_) | with_reducible exact H | (rw [hy214]; exact H) | exact H); have Ny214 := aa hy214; clear hy214; have H' := aa H; clear H; go_enter Tryz.func91, Tryz.ntmps91
 go_wp2_with (first | ((with_reducible refine az (N := 8) rfl ?_); refine Kd.R_lit (Kd.int .i64) _ 2 ?hg (N := 8) ?hd (xs := ([] : List Int)) (inner := []) (ok := fun _ => True) (okp := fun _ => True) ?hr ?hp (fun _ hk => hk) trivial (Below.refl _ _) (Nat.le_refl _) (by simp) ?_; (case hd => rfl); (case hg => rfl); (case hr => first | (go_simp; done) | (go_simp; rfl)); (case hp => exact (Reps.none _ _)); intro v215 w3 ho4 hb hg_ hnew_; clear hg_ hnew_; (first | rw [← Ny214.out] at ho4 | (simp only [Int.reduceToNat] at ho4; rw [← Ny214.out] at ho4)); have n0_ := aa (bd ho4 (al (by repeat (first | (with_reducible first | exact HB.out | apply ae | apply ab | apply ac) | exact HB.out)))); have n1_ := aa (af (by repeat (first | (with_reducible first | exact HB.out | apply ae | apply ab | apply ac) | exact HB.out)) hb); clear HB; have HO216 := n0_; have HB := n1_; clear n0_ n1_; clear hb ho4))
 go_loopg [5, 11] k (fun kq v5 v11 w' => ∃ (x5_1 : List Int) (x11_1 : Int), v11 = .int .i64 x11_1 ∧ Aside0 (impl_neighboursOf.l0 kq a1 x5_1 l0 (l0.length : Int) x11_1 = some r) ∧ Aside0 (kq ≤ k) ∧ Aside0 (Kd.R (Kd.int .i64) 2 w' w.heap.size (fun _ => True) v5 x5_1) ∧ Aside0 (Below w.heap.size w w'))
 case atStart => exact ⟨(y214), (0), (by first | rfl | (simp; done) | (simp [*]; done)), H', ⟨Nat.le_refl _⟩, ⟨by (with_reducible repeat (first | apply ah | apply ag | apply ai)); exact HO216.out⟩, ⟨by repeat (first | (with_reducible first | exact HB.out | apply ae | apply ab | apply ac) | exact HB.out)⟩⟩
 case round =>
  clear H'; (try clear p2); obtain ⟨x5_1, x11_1, rfl, HA, HK1, HO_5, HB⟩ := hrel
  cases gk with
  | zero => exact absurd HA.out (by simp [impl_neighboursOf.l0])
  | succ k1 =>
   have H := HA.out; clear HA; simp only [impl_neighboursOf.l0] at H; by_cases c5 : x11_1 < (l0.length : Int)
   ·rw [if_pos c5] at H; have c5b0 : decide (x11_1 < (l0.length : Int)) = true := decide_eq_true c5; clear c5; by_cases c6 : 0 ≤ x11_1
    ·rw [if_pos c6] at H; have c6b0 : decide (0 ≤ x11_1) = true := decide_eq_true c6; clear c6; by_cases c7 : x11_1 < (l0.length : Int)
     ·rw [if_pos c7] at H; have c7b0 : decide (x11_1 < (l0.length : Int)) = true := decide_eq_true c7; clear c7; by_cases c8 : a1 = ((rd_T82 l0 x11_1).f0)
      ·rw [if_pos c8] at H; have c8b0 : (a1 == ((rd_T82 l0 x11_1).f0)) = true := beq_iff_eq.mpr c8; have c8b1 : (a1 != ((rd_T82 l0 x11_1).f0)) = false := bne_eq_false_iff_eq.mpr c8; clear c8; by_cases c9 : x5_1.length < 17592186044416
       ·rw [if_pos c9] at H; have LMc9 := aa c9; clear c9; obtain ⟨y222, hy222⟩ : ∃ y_ : List Int, y_ = (x5_1 ++ [(rd_T82 l0 x11_1).f1]) := ⟨_, rfl⟩; (replace H : (impl_neighboursOf.l0 k1 a1 y222 l0 (l0.length : Int) (wrap64 (x11_1 + 1))) = some r := by first | (rw [hy222]; with_reducible exact H) | (have H2_ := (b6 _ _).symm.trans H; rw [hy222]; with_reducible exact H2_) | (have H2_ := (b6 _ _).symm.trans H; with_reducible exact H2_) | with_reducible exact H | (rw [hy222]; exact H) | exact H); have Ny222 := aa hy222; clear hy222; have H' := aa H; clear H; have p220 : 0 ≤ (x11_1 : Int) := of_decide_eq_true (by first | (with_reducible assumption) | assumption); have q220 : x11_1 < (l0.length : Int) := of_decide_eq_true (by first | (with_reducible assumption) | assumption); obtain ⟨ad220, e220, hx220_0, hx220_1⟩ := at_T82 HR0.out x11_1 p220 q220
        cases e220
        replace hx220_0 := (HB.out.cell (World.block_lt_of_cell? w _ hx220_0)).trans hx220_0; replace hx220_1 := (HB.out.cell (World.block_lt_of_cell? w _ hx220_1)).trans hx220_1; replace p220 := eq_true p220; replace q220 := eq_true q220
        go_wp2_with (first | ((with_reducible refine az (N := 7) rfl ?_); refine bb ?hg (N := 7) ?hd (cs := #[.int .i64 0, .int .i64 0]) (t := 82) ?hr ?_; (case hd => rfl); (case hg => rfl); (case hr => first | (go_simp; done) | (go_simp; rfl)); intro gb221 hg w10 hbox hb; have n0_ := aa (be (by (with_reducible repeat (first | apply ah | apply ag | apply ai)); exact HO_5.out) hb); have n1_ := aa (af (by repeat (first | (with_reducible first | exact HB.out | apply ae | apply ab | apply ac) | exact HB.out)) hb); have n2_ := aa (hbox); have n3_ := aa ((by rw [hg]; exact (al (by repeat (first | (with_reducible first | exact HB.out | apply ae | apply ab | apply ac) | exact HB.out))) : w.heap.size ≤ gb221)); have n4_ := aa ((by rw [hg]; exact (al (by repeat (first | (with_reducible first | exact HB.out | apply ae | apply ab | apply ac) | exact HB.out))) : w.heap.size ≤ gb221)); clear HO_5; clear HB; have HO_5 := n0_; have HB := n1_; have BK221 := n2_; have GW221 := n3_; have GE221 := n4_; clear n0_ n1_ n2_ n3_ n4_; clear hb hbox hg; have hcz11_0 : w10.cell? ⟨gb221, 0, none⟩ = some (.int .i64 0) := (ap BK221.out 0).trans rfl; have hcz11_1 : w10.cell? ⟨gb221, 1, none⟩ = some (.int .i64 0) := (ap BK221.out 1).trans rfl; have hfz11_0 := ao BK221.out 0; have hfz11_1 := ao BK221.out 1) | ((with_reducible refine gate_builtin (b := .append) (xs := #[.tmp 20, .tmp 23]) rfl ?_); at_builtin; refine Kd.R_append (Kd.int .i64) (w0 := w) w.heap.size rfl (.tmp 20) (.tmp 23) 27 2 (.int .i64 0) 8 rfl Tryz.underlying27 info2 rfl (by decide) (by omega) u5 x5_1 ((rd_T82 l0 x11_1).f1) [.int .i64 ((rd_T82 l0 x11_1).f1)] (fun _ => True) (fun _ => False) rfl (by first | (go_simp; done) | (go_simp; rfl)) ?aP (fun _ hk => hk.elim) ?aF ?aO ?aB ?aS ?aL ?_; (case aP => exact rfl); (case aB => exact (by repeat (first | (with_reducible first | exact HB.out | apply ae | apply ab | apply ac | refine ak ?_ GE221.out) | exact HB.out))); (case aF => exact (fun _ _ => trivial)); (case aO => exact (by (with_reducible repeat (first | apply ah | apply ag | apply ai)); exact bc (Kd.R_far (p := ⟨gb221, 1, none⟩) (Kd.R_far (p := ⟨gb221, 0, none⟩) (Kd.R_types HO_5.out BK221.out (by decide)) (fun _ hk => hk.2) (.int .i64 ((rd_T82 l0 x11_1).f0))) (fun _ hk => hk.2) (.int .i64 ((rd_T82 l0 x11_1).f1))) (fun _ hk => trivial))); (case aS => exact (al (by repeat (first | (with_reducible first | exact HB.out | apply ae | apply ab | apply ac | refine ak ?_ GE221.out) | exact HB.out)))); (case aL => have := LMc9.out; omega); intro v223 w12 ho hb hg hat; rw [← Ny222.out] at ho; have n0_ := aa (blk_grown (g := gb221) (o := .cells #[.int .i64 ((rd_T82 l0 x11_1).f0), .int .i64 ((rd_T82 l0 x11_1).f1)] 82 (0, 0)) (by (with_reducible repeat (first | refine an ?_ _ | refine aq ?_ | refine am ?_ _)); refine blk_put (cs := #[.int .i64 ((rd_T82 l0 x11_1).f0), .int .i64 0]) ?_ 1 _ rfl; (with_reducible repeat (first | refine an ?_ _ | refine aq ?_ | refine am ?_ _)); refine blk_put (cs := #[.int .i64 0, .int .i64 0]) ?_ 0 _ rfl; (with_reducible repeat (first | refine an ?_ _ | refine aq ?_ | refine am ?_ _)); exact BK221.out) hg (Kd.R_ne HO_5.out BK221.out (by decide))); have n1_ := aa (hb); have n2_ := aa (ho); clear BK221; clear HB; clear HO_5; have BK221 := n0_; have HB := n1_; have HO224 := n2_; clear n0_ n1_ n2_; clear ho hb hg hat))
        go_roundg k1
        case measure => have := HK1.out; omega
        case rel => exact ⟨(y222), (wrap64 (x11_1 + 1)), (by first | rfl | (simp; done) | (simp [*]; done)), H', ⟨by have := HK1.out; omega⟩, ⟨by (with_reducible repeat (first | apply ah | apply ag | apply ai)); exact HO224.out⟩, ⟨by repeat (first | (with_reducible first | exact HB.out | apply ae | apply ab | apply ac | refine ak ?_ GE221.out) | exact HB.out)⟩⟩
       ·rw [if_neg c9] at H; exact absurd H (by simp)
      ·rw [if_neg c8] at H; have c8b0 : (a1 == ((rd_T82 l0 x11_1).f0)) = false := beq_eq_false_iff_ne.mpr c8; have c8b1 : (a1 != ((rd_T82 l0 x11_1).f0)) = true := bne_iff_ne.mpr c8; by_cases c13 : a1 = ((rd_T82 l0 x11_1).f1)
       ·rw [if_pos c13] at H; have c13b0 : (a1 == ((rd_T82 l0 x11_1).f1)) = true := beq_iff_eq.mpr c13; have c13b1 : (a1 != ((rd_T82 l0 x11_1).f1)) = false := bne_eq_false_iff_eq.mpr c13; clear c13; by_cases c14 : x5_1.length < 17592186044416
        ·rw [if_pos c14] at H; have LMc14 := aa c14; clear c14; obtain ⟨y225, hy225⟩ : ∃ y_ : List Int, y_ = (x5_1 ++ [(rd_T82 l0 x11_1).f0]) := ⟨_, rfl⟩; (replace H : (impl_neighboursOf.l0 k1 a1 y225 l0 (l0.length : Int) (wrap64 (x11_1 + 1))) = some r := by first | (rw [hy225]; with_reducible exact H) | (have H2_ := (b6 _ _).symm.trans H; rw [hy225]; with_reducible exact H2_) | (have H2_ := (b6 _ _).symm.trans H; with_reducible exact H2_) | with_reducible exact H | (rw [hy225]; exact H) | exact H); have Ny225 := aa hy225; clear hy225; have H' := aa H; clear H; have p220 : 0 ≤ (x11_1 : Int) := of_decide_eq_true (by first | (with_reducible assumption) | assumption); have q220 : x11_1 < (l0.length : Int) := of_decide_eq_true (by first | (with_reducible assumption) | assumption); obtain ⟨ad220, e220, hx220_0, hx220_1⟩ := at_T82 HR0.out x11_1 p220 q220
         cases e220
         replace hx220_0 := (HB.out.cell (World.block_lt_of_cell? w _ hx220_0)).trans hx220_0; replace hx220_1 := (HB.out.cell (World.block_lt_of_cell? w _ hx220_1)).trans hx220_1; replace p220 := eq_true p220; replace q220 := eq_true q220
         go_wp2_with (first | ((with_reducible refine az (N := 7) rfl ?_); refine bb ?hg (N := 7) ?hd (cs := #[.int .i64 0, .int .i64 0]) (t := 82) ?hr ?_; (case hd => rfl); (case hg => rfl); (case hr => first | (go_simp; done) | (go_simp; rfl)); intro gb221 hg w15 hbox hb; have n0_ := aa (be (by (with_reducible repeat (first | apply ah | apply ag | apply ai)); exact HO_5.out) hb); have n1_ := aa (af (by repeat (first | (with_reducible first | exact HB.out | apply ae | apply ab | apply ac) | exact HB.out)) hb); have n2_ := aa (hbox); have n3_ := aa ((by rw [hg]; exact (al (by repeat (first | (with_reducible first | exact HB.out | apply ae | apply ab | apply ac) | exact HB.out))) : w.heap.size ≤ gb221)); have n4_ := aa ((by rw [hg]; exact (al (by repeat (first | (with_reducible first | exact HB.out | apply ae | apply ab | apply ac) | exact HB.out))) : w.heap.size ≤ gb221)); clear HO_5; clear HB; have HO_5 := n0_; have HB := n1_; have BK221 := n2_; have GW221 := n3_; have GE221 := n4_; clear n0_ n1_ n2_ n3_ n4_; clear hb hbox hg; have hcz16_0 : w15.cell? ⟨gb221, 0, none⟩ = some (.int .i64 0) := (ap BK221.out 0).trans rfl; have hcz16_1 : w15.cell? ⟨gb221, 1, none⟩ = some (.int .i64 0) := (ap BK221.out 1).trans rfl; have hfz16_0 := ao BK221.out 0; have hfz16_1 := ao BK221.out 1) | ((with_reducible refine gate_builtin (b := .append) (xs := #[.tmp 29, .tmp 32]) rfl ?_); at_builtin; refine Kd.R_append (Kd.int .i64) (w0 := w) w.heap.size rfl (.tmp 29) (.tmp 32) 27 2 (.int .i64 0) 8 rfl Tryz.underlying27 info2 rfl (by decide) (by omega) u5 x5_1 ((rd_T82 l0 x11_1).f0) [.int .i64 ((rd_T82 l0 x11_1).f0)] (fun _ => True) (fun _ => False) rfl (by first | (go_simp; done) | (go_simp; rfl)) ?aP (fun _ hk => hk.elim) ?aF ?aO ?aB ?aS ?aL ?_; (case aP => exact rfl); (case aB => exact (by repeat (first | (with_reducible first | exact HB.out | apply ae | apply ab | apply ac | refine ak ?_ GE221.out) | exact HB.out))); (case aF => exact (fun _ _ => trivial)); (case aO => exact (by (with_reducible repeat (first | apply ah | apply ag | apply ai)); exact bc (Kd.R_far (p := ⟨gb221, 1, none⟩) (Kd.R_far (p := ⟨gb221, 0, none⟩) (Kd.R_types HO_5.out BK221.out (by decide)) (fun _ hk => hk.2) (.int .i64 ((rd_T82 l0 x11_1).f0))) (fun _ hk => hk.2) (.int .i64 ((rd_T82 l0 x11_1).f1))) (fun _ hk => trivial))); (case aS => exact (al (by repeat (first | (with_reducible first | exact HB.out | apply ae | apply ab | apply ac | refine ak ?_ GE221.out) | exact HB.out)))); (case aL => have := LMc14.out; omega); intro v226 w17 ho hb hg hat; rw [← Ny225.out] at ho; have n0_ := aa (blk_grown (g := gb221) (o := .cells #[.int .i64 ((rd_T82 l0 x11_1).f0), .int .i64 ((rd_T82 l0 x11_1).f1)] 82 (0, 0)) (by (with_reducible repeat (first | refine an ?_ _ | refine aq ?_ | refine am ?_ _)); refine blk_put (cs := #[.int .i64 ((rd_T82 l0 x11_1).f0), .int .i64 0]) ?_ 1 _ rfl; (with_reducible repeat (first | refine an ?_ _ | refine aq ?_ | refine am ?_ _)); refine blk_put (cs := #[.int .i64 0, .int .i64 0]) ?_ 0 _ rfl; (with_reducible repeat (first | refine an ?_ _ | refine aq ?_ | refine am ?_ _)); exact BK221.out) hg (Kd.R_ne HO_5.out BK221.out (by decide))); have n1_ := aa (hb); have n2_ := aa (ho); clear BK221; clear HB; clear HO_5; have BK221 := n0_; have HB := n1_; have HO227 := n2_; clear n0_ n1_ n2_; clear ho hb hg hat))
         go_roundg k1
         case measure => have := HK1.out; omega
         case rel => exact ⟨(y225), (wrap64 (x11_1 + 1)), (by first | rfl | (simp; done) | (simp [*]; done)), H', ⟨by have := HK1.out; omega⟩, ⟨by (with_reducible repeat (first | apply ah | apply ag | apply ai)); exact HO227.out⟩, ⟨by repeat (first | (with_reducible first | exact HB.out | apply ae | apply ab | apply ac | refine ak ?_ GE221.out) | exact HB.out)⟩⟩
        ·rw [if_neg c14] at H; exact absurd H (by simp)
       ·rw [if_neg c13] at H; have c13b0 : (a1 == ((rd_T82 l0 x11_1).f1)) = false := beq_eq_false_iff_ne.mpr c13; have c13b1 : (a1 != ((rd_T82 l0 x11_1).f1)) = true := bne_iff_ne.mpr c13; have H' := aa H; clear H; have p220 : 0 ≤ (x11_1 : Int) := of_decide_eq_true (by first | (with_reducible assumption) | assumption); have q220 : x11_1 < (l0.length : Int) := of_decide_eq_true (by first | (with_reducible assumption) | assumption); obtain ⟨ad220, e220, hx220_0, hx220_1⟩ := at_T82 HR0.out x11_1 p220 q220
        cases e220
        replace hx220_0 := (HB.out.cell (World.block_lt_of_cell? w _ hx220_0)).trans hx220_0; replace hx220_1 := (HB.out.cell (World.block_lt_of_cell? w _ hx220_1)).trans hx220_1; replace p220 := eq_true p220; replace q220 := eq_true q220
        go_wp2_with (first | ((with_reducible refine az (N := 7) rfl ?_); refine bb ?hg (N := 7) ?hd (cs := #[.int .i64 0, .int .i64 0]) (t := 82) ?hr ?_; (case hd => rfl); (case hg => rfl); (case hr => first | (go_simp; done) | (go_simp; rfl)); intro gb221 hg w18 hbox hb; have n0_ := aa (be (by (with_reducible repeat (first | apply ah | apply ag | apply ai)); exact HO_5.out) hb); have n1_ := aa (af (by repeat (first | (with_reducible first | exact HB.out | apply ae | apply ab | apply ac) | exact HB.out)) hb); have n2_ := aa (hbox); have n3_ := aa ((by rw [hg]; exact (al (by repeat (first | (with_reducible first | exact HB.out | apply ae | apply ab | apply ac) | exact HB.out))) : w.heap.size ≤ gb221)); have n4_ := aa ((by rw [hg]; exact (al (by repeat (first | (with_reducible first | exact HB.out | apply ae | apply ab | apply ac) | exact HB.out))) : w.heap.size ≤ gb221)); clear HO_5; clear HB; have HO_5 := n0_; have HB := n1_; have BK221 := n2_; have GW221 := n3_; have GE221 := n4_; clear n0_ n1_ n2_ n3_ n4_; clear hb hbox hg; have hcz19_0 : w18.cell? ⟨gb221, 0, none⟩ = some (.int .i64 0) := (ap BK221.out 0).trans rfl; have hcz19_1 : w18.cell? ⟨gb221, 1, none⟩ = some (.int .i64 0) := (ap BK221.out 1).trans rfl; have hfz19_0 := ao BK221.out 0; have hfz19_1 := ao BK221.out 1))
        go_roundg k1
        case measure => have := HK1.out; omega
        case rel => exact ⟨(x5_1), (wrap64 (x11_1 + 1)), (by first | rfl | (simp; done) | (simp [*]; done)), H', ⟨by have := HK1.out; omega⟩, ⟨by (with_reducible repeat (first | apply ah | apply ag | apply ai)); exact bc (Kd.R_far (p := ⟨gb221, 1, none⟩) (Kd.R_far (p := ⟨gb221, 0, none⟩) (Kd.R_types HO_5.out BK221.out (by decide)) (fun _ hk => hk.2) (.int .i64 ((rd_T82 l0 x11_1).f0))) (fun _ hk => hk.2) (.int .i64 ((rd_T82 l0 x11_1).f1))) (fun _ hk => trivial)⟩, ⟨by repeat (first | (with_reducible first | exact HB.out | apply ae | apply ab | apply ac | refine ak ?_ GE221.out) | exact HB.out)⟩⟩
     ·rw [if_neg c7] at H; exact absurd H (by simp)
    ·rw [if_neg c6] at H; exact absurd H (by simp)
   ·rw [if_neg c5] at H; have c5b0 : decide (x11_1 < (l0.length : Int)) = false := decide_eq_false c5; clear c5; replace H := bf.mp H; obtain ⟨t217, A200, H⟩ := H; replace H : (some t217) = some r := H; have A20 := aa A200; clear A200; obtain rfl := Option.some.inj H; obtain ⟨Ao21, co21, eo21⟩ := Kd.R_slice HO_5.out; subst eo21
    go_wp2_with (first | ((with_reducible refine gate_callee (f := 100) rfl ?_); refine goesL_ (some 36) rfl rfl Tryz.func100 (by kernel_rfl) rfl #[.slice Ao21 x5_1.length co21] rfl (by (try simp only [b3, b4, b5]); first | done | rfl | (simp only [b0, b2]; rfl)) ?_; (with_reducible refine (impl_ascending.calls _ _ x5_1 t217 _ ?side1 ?side2 A20.out).mono ?_); (case side1 => repeat (first | exact (aw HO_5.out).2.2 | (with_reducible refine ar ?_ _) | (with_reducible refine au ?_ _) | (with_reducible refine av ?_))); (case side2 => exact (aw HO_5.out).2.1); rintro e w22 ⟨v218, rfl, ho0, hb⟩; refine ⟨_, rfl, ?_⟩; have n0_ := aa (Kd.R_elder' (by (with_reducible repeat (first | apply ah | apply ag | apply ai)); exact HO_5.out) (Kd.R_base ho0) hb); have n1_ := aa (bd (Kd.R_new' ho0 (Kd.R_lt (by (with_reducible repeat (first | apply ah | apply ag | apply ai)); exact HO_5.out))) (al (by repeat (first | (with_reducible first | exact HB.out | apply ae | apply ab | apply ac) | exact HB.out)))); have n2_ := aa (af (by repeat (first | (with_reducible first | exact HB.out | apply ae | apply ab | apply ac) | exact HB.out)) hb); clear HO_5; clear HB; have HO_5 := n0_; have HO219 := n1_; have HB := n2_; clear n0_ n1_ n2_; (try clear hb); (try clear hb2); (try clear hk); (try clear hi); (try clear ho0)))
    go_ret; exact ⟨_, by first | rfl | (simp [errW_none, errW_some] <;> rfl) | (simp [*, errW_none, errW_some] <;> rfl), by (with_reducible repeat (first | apply ah | apply ag | apply ai)); exact bc HO219.out (fun _ hk => trivial), by repeat (first | (with_reducible first | exact HB.out | apply ae | apply ab | apply ac) | exact HB.out)⟩
def impl_mayHave.l0 : Nat → List Int → Int → List Int → Int → Int → Option (Bool)
 | 0, _, _, _, _, _ => none
 | k + 1, x1, x2, x12, x13, x14 => if x14 < x13 then (if 0 ≤ x14 then (if x14 < (x12.length : Int) then (if (rd x12 x14) < (x1.length : Int) then (if 0 ≤ (rd x12 x14) then (if (rd x1 (rd x12 x14)) = x2 then (some false) else (impl_mayHave.l0 k x1 x2 x12 x13 (wrap64 (x14 + 1)))) else (none)) else (impl_mayHave.l0 k x1 x2 x12 x13 (wrap64 (x14 + 1)))) else (none)) else (none)) else (some true)
def impl_mayHave.f (k : Nat) (l0 : List (S82)) (l1 : List Int) (a2 : Int) : Option (Bool) := (impl_neighboursOf.f k l0 (l1.length : Int)).bind fun t228 => (impl_mayHave.l0 k l1 a2 t228 (t228.length : Int) 0)
theorem impl_mayHave.mono_l : ∀ k, (∀ y0 y1 y2 y3 y4, LeO (impl_mayHave.l0 k y0 y1 y2 y3 y4) (impl_mayHave.l0 (k + 1) y0 y1 y2 y3 y4))
 | 0 => fun _ _ _ _ _ r h => by simp [impl_mayHave.l0] at h
 | k + 1 => by
  have ih0 := impl_mayHave.mono_l k
  ·intro y0 y1 y2 y3 y4; unfold impl_mayHave.l0
   repeat' first
   | (with_reducible exact ih0 _ _ _ _ _)
   | (with_reducible exact impl_neighboursOf.mono _ _ _)
   | (with_reducible exact LeO.refl _)
   | (with_reducible exact LeO.none _)
   | (with_reducible refine LeO.ite ?_ ?_)
   | (with_reducible refine LeO.bind ?_ (fun _ => ?_))
   | exact ih0 _ _ _ _ _
   | exact impl_neighboursOf.mono _ _ _
   | exact LeO.none _
   | refine LeO.ite ?_ ?_
   | refine LeO.bind ?_ (fun _ => ?_)
theorem impl_mayHave.mono : ∀ a0 a1 a2 k, LeO (impl_mayHave.f k a0 a1 a2) (impl_mayHave.f (k + 1) a0 a1 a2) := by
 intro a0 a1 a2 k; have ih0 := impl_mayHave.mono_l k; unfold impl_mayHave.f
 repeat' first
   | (with_reducible exact ih0 _ _ _ _ _)
   | (with_reducible exact impl_neighboursOf.mono _ _ _)
   | (with_reducible exact LeO.refl _)
   | (with_reducible exact LeO.none _)
   | (with_reducible refine LeO.ite ?_ ?_)
   | (with_reducible refine LeO.bind ?_ (fun _ => ?_))
   | exact ih0 _ _ _ _ _
   | exact impl_neighboursOf.mono _ _ _
   | exact LeO.none _
   | refine LeO.ite ?_ ?_
   | refine LeO.bind ?_ (fun _ => ?_)
set_option maxHeartbeats 8000000 in
set_option maxRecDepth 100000 in
theorem impl_mayHave.calls (k : Nat) (A0 : Option Addr) (c0 : Nat) (l0 : List (S82)) (A1 : Option Addr) (c1 : Nat) (l1 : List Int) (a2 : Int) (r : Bool) (w : World) (hr0 : Kd.C k82 w A0 l0.length l0) (hc0 : l0.length ≤ c0) (hr1 : Kd.C (Kd.int .i64) w A1 l1.length l1) (hc1 : l1.length ≤ c1) (h : impl_mayHave.f k l0 l1 a2 = some r) :
  Calls Tryz.prog 71 #[.slice A0 l0.length c0, .slice A1 l1.length c1, .int .i64 a2] w fun e w' => e = .returned (.bool r) ∧ Below w.heap.size w w' := by
 have HR0 := aa hr0; have HC0 := aa hc0; clear hr0 hc0; have HR1 := aa hr1; have HC1 := aa hc1; clear hr1 hc1; have HB := aa (Below.refl w.heap.size w); have H : ((impl_neighboursOf.f k l0 (l1.length : Int)).bind fun t228 => (impl_mayHave.l0 k l1 a2 t228 (t228.length : Int) 0)) = some r := h; clear h; replace H := bf.mp H; obtain ⟨t228, A40, H⟩ := H; replace H : (impl_mayHave.l0 k l1 a2 t228 (t228.length : Int) 0) = some r := H; have A4 := aa A40; clear A40; have H' := aa H; clear H; go_enter Tryz.func71, Tryz.ntmps71
 go_wp2_with (first | ((with_reducible refine gate_callee (f := 91) rfl ?_); refine goesL_ (some 12) rfl rfl Tryz.func91 (by kernel_rfl) rfl #[.slice A0 l0.length c0, .int .i64 (l1.length : Int)] rfl (by (try simp only [b3, b4, b5]); first | done | rfl | (simp only [b0, b2]; rfl)) ?_; (with_reducible refine (impl_neighboursOf.calls k _ _ l0 (l1.length : Int) t228 _ ?side1 ?side2 A4.out).mono ?_); (case side1 => repeat (first | exact HR0.out | (with_reducible refine ar ?_ _) | (with_reducible refine au ?_ _) | (with_reducible refine av ?_))); (case side2 => exact HC0.out); rintro e w5 ⟨v229, rfl, ho0, hb⟩; refine ⟨_, rfl, ?_⟩; have n0_ := aa (bd ho0 (al (by repeat (first | (with_reducible first | exact HB.out | apply ae | apply ab | apply ac) | exact HB.out)))); have n1_ := aa (af (by repeat (first | (with_reducible first | exact HB.out | apply ae | apply ab | apply ac) | exact HB.out)) hb); clear HB; have HO230 := n0_; have HB := n1_; clear n0_ n1_; (try clear hb); (try clear hb2); (try clear hk); (try clear hi); (try clear ho0); obtain ⟨Ao6, co6, eo6⟩ := Kd.R_slice HO230.out; subst eo6))
 go_loopg [14] k (fun kq v14 w' => ∃ (x14_1 : Int), v14 = .int .i64 x14_1 ∧ Aside0 (impl_mayHave.l0 kq l1 a2 t228 (t228.length : Int) x14_1 = some r) ∧ Aside0 (kq ≤ k) ∧ Aside0 (Kd.R (Kd.int .i64) 2 w' w.heap.size (fun _ => True) (.slice Ao6 t228.length co6) t228) ∧ Aside0 (Below w.heap.size w w'))
 case atStart => exact ⟨(0), (by first | rfl | (simp; done) | (simp [*]; done)), H', ⟨Nat.le_refl _⟩, ⟨by (with_reducible repeat (first | apply ah | apply ag | apply ai)); exact HO230.out⟩, ⟨by repeat (first | (with_reducible first | exact HB.out | apply ae | apply ab | apply ac) | exact HB.out)⟩⟩
 case round =>
  clear H'; (try clear c1); (try clear p2); obtain ⟨x14_1, rfl, HA, HK1, HO_12, HB⟩ := hrel
  cases gk with
  | zero => exact absurd HA.out (by simp [impl_mayHave.l0])
  | succ k1 =>
   have H := HA.out; clear HA; simp only [impl_mayHave.l0] at H; by_cases c7 : x14_1 < (t228.length : Int)
   ·rw [if_pos c7] at H; have c7b0 : decide (x14_1 < (t228.length : Int)) = true := decide_eq_true c7; clear c7; by_cases c8 : 0 ≤ x14_1
    ·rw [if_pos c8] at H; have c8b0 : decide (0 ≤ x14_1) = true := decide_eq_true c8; clear c8; by_cases c9 : x14_1 < (t228.length : Int)
     ·rw [if_pos c9] at H; have c9b0 : decide (x14_1 < (t228.length : Int)) = true := decide_eq_true c9; clear c9; by_cases c10 : (rd t228 x14_1) < (l1.length : Int)
      ·rw [if_pos c10] at H; have c10b0 : decide ((rd t228 x14_1) < (l1.length : Int)) = true := decide_eq_true c10; clear c10; by_cases c11 : 0 ≤ (rd t228 x14_1)
       ·rw [if_pos c11] at H; have c11b0 : decide (0 ≤ (rd t228 x14_1)) = true := decide_eq_true c11; clear c11; by_cases c12 : (rd l1 (rd t228 x14_1)) = a2
        ·rw [if_pos c12] at H; have c12b0 : ((rd l1 (rd t228 x14_1)) == a2) = true := beq_iff_eq.mpr c12; have c12b1 : ((rd l1 (rd t228 x14_1)) != a2) = false := bne_eq_false_iff_eq.mpr c12; clear c12; obtain rfl := Option.some.inj H; have p231 : 0 ≤ (x14_1 : Int) := of_decide_eq_true (by first | (with_reducible assumption) | assumption); have q231 : x14_1 < (t228.length : Int) := of_decide_eq_true (by first | (with_reducible assumption) | assumption); obtain ⟨ad231, e231, hx231_0⟩ := ax (aw HO_12.out).2.2 x14_1 p231 q231
         cases e231
         replace p231 := eq_true p231; replace q231 := eq_true q231; have p232 : 0 ≤ ((rd t228 x14_1) : Int) := of_decide_eq_true (by first | (with_reducible assumption) | assumption); have q232 : (rd t228 x14_1) < (l1.length : Int) := of_decide_eq_true (by first | (with_reducible assumption) | assumption); obtain ⟨ad232, e232, hx232_0⟩ := ax HR1.out (rd t228 x14_1) p232 q232
         cases e232
         replace hx232_0 := (HB.out.cell (World.block_lt_of_cell? w _ hx232_0)).trans hx232_0; replace p232 := eq_true p232; replace q232 := eq_true q232; go_wp2; go_ret; exact ⟨by first | rfl | (simp [errW_none, errW_some] <;> rfl) | (simp [*, errW_none, errW_some] <;> rfl), by repeat (first | (with_reducible first | exact HB.out | apply ae | apply ab | apply ac) | exact HB.out)⟩
        ·rw [if_neg c12] at H; have c12b0 : ((rd l1 (rd t228 x14_1)) == a2) = false := beq_eq_false_iff_ne.mpr c12; have c12b1 : ((rd l1 (rd t228 x14_1)) != a2) = true := bne_iff_ne.mpr c12; have H' := aa H; clear H; have p231 : 0 ≤ (x14_1 : Int) := of_decide_eq_true (by first | (with_reducible assumption) | assumption); have q231 : x14_1 < (t228.length : Int) := of_decide_eq_true (by first | (with_reducible assumption) | assumption); obtain ⟨ad231, e231, hx231_0⟩ := ax (aw HO_12.out).2.2 x14_1 p231 q231
         cases e231
         replace p231 := eq_true p231; replace q231 := eq_true q231; have p232 : 0 ≤ ((rd t228 x14_1) : Int) := of_decide_eq_true (by first | (with_reducible assumption) | assumption); have q232 : (rd t228 x14_1) < (l1.length : Int) := of_decide_eq_true (by first | (with_reducible assumption) | assumption); obtain ⟨ad232, e232, hx232_0⟩ := ax HR1.out (rd t228 x14_1) p232 q232
         cases e232
         replace hx232_0 := (HB.out.cell (World.block_lt_of_cell? w _ hx232_0)).trans hx232_0; replace p232 := eq_true p232; replace q232 := eq_true q232; go_wp2; go_roundg k1
         case measure => have := HK1.out; omega
         case rel => exact ⟨(wrap64 (x14_1 + 1)), (by first | rfl | (simp; done) | (simp [*]; done)), H', ⟨by have := HK1.out; omega⟩, ⟨by (with_reducible repeat (first | apply ah | apply ag | apply ai)); exact HO_12.out⟩, ⟨by repeat (first | (with_reducible first | exact HB.out | apply ae | apply ab | apply ac) | exact HB.out)⟩⟩
       ·rw [if_neg c11] at H; exact absurd H (by simp)
      ·rw [if_neg c10] at H; have c10b0 : decide ((rd t228 x14_1) < (l1.length : Int)) = false := decide_eq_false c10; clear c10; have H' := aa H; clear H; have p231 : 0 ≤ (x14_1 : Int) := of_decide_eq_true (by first | (with_reducible assumption) | assumption); have q231 : x14_1 < (t228.length : Int) := of_decide_eq_true (by first | (with_reducible assumption) | assumption); obtain ⟨ad231, e231, hx231_0⟩ := ax (aw HO_12.out).2.2 x14_1 p231 q231
       cases e231
       replace p231 := eq_true p231; replace q231 := eq_true q231; go_wp2; go_roundg k1
       case measure => have := HK1.out; omega
       case rel => exact ⟨(wrap64 (x14_1 + 1)), (by first | rfl | (simp; done) | (simp [*]; done)), H', ⟨by have := HK1.out; omega⟩, ⟨by (with_reducible repeat (first | apply ah | apply ag | apply ai)); exact HO_12.out⟩, ⟨by repeat (first | (with_reducible first | exact HB.out | apply ae | apply ab | apply ac) | exact HB.out)⟩⟩
     ·rw [if_neg c9] at H; exact absurd H (by simp)
    ·rw [if_neg c8] at H; exact absurd H (by simp)
   ·rw [if_neg c7] at H; have c7b0 : decide (x14_1 < (t228.length : Int)) = false := decide_eq_false c7; clear c7; obtain rfl := Option.some.inj H; go_wp2; go_ret; exact ⟨by first | rfl | (simp [errW_none, errW_some] <;> rfl) | (simp [*, errW_none, errW_some] <;> rfl), by repeat (first | (with_reducible first | exact HB.out | apply ae | apply ab | apply ac) | exact HB.out)⟩
mutual
def fc_walk : Nat → Int → List S82 → Int → List Int → Option (List Int)
 | 0, _, _, _, _ => none
 | k + 1, n, l, m, cs => if (cs.length : Int) = n then (if 0 < cs.length then some cs else none) else fc_loop k n l m cs 0
def fc_loop : Nat → Int → List S82 → Int → List Int → Int → Option (List Int)
 | 0, _, _, _, _, _ => none
 | k + 1, n, l, m, cs, c => if c < m then ((impl_mayHave.f k l cs c).bind fun ok => if ok = true then (if cs.length < 1000 then ((fc_walk k n l m (cs ++ [c])).bind fun r => if 0 < r.length then some r else fc_loop k n l m cs (wrap64 (c + 1))) else none) else fc_loop k n l m cs (wrap64 (c + 1))) else some []
end
theorem fc_mono : ∀ k, (∀ n l m cs, LeO (fc_walk k n l m cs) (fc_walk (k + 1) n l m cs)) ∧ (∀ n l m cs c, LeO (fc_loop k n l m cs c) (fc_loop (k + 1) n l m cs c))
 | 0 => ⟨fun _ _ _ _ r h => by simp [fc_walk] at h, fun _ _ _ _ _ r h => by simp [fc_loop] at h⟩
 | k + 1 => by
  obtain ⟨i1, i2⟩ := fc_mono k; constructor
  ·intro n l m cs; rw [fc_walk, fc_walk]
   repeat' first
    | (with_reducible exact i2 _ _ _ _ _)
    | (with_reducible exact LeO.refl _)
    | (with_reducible refine LeO.ite ?_ ?_)
  ·intro n l m cs c; rw [fc_loop, fc_loop]
   repeat' first
    | (with_reducible exact i1 _ _ _ _)
    | (with_reducible exact i2 _ _ _ _ _)
    | (with_reducible exact impl_mayHave.mono _ _ _ _)
    | (with_reducible exact LeO.refl _)
    | (with_reducible refine LeO.ite ?_ ?_)
    | (with_reducible refine LeO.bind ?_ (fun _ => ?_))
def fw_loop : Nat → Int → List S82 → Int → Option Int
 | 0, _, _, _ => none
 | k + 1, n, l, m => (fc_walk k n l m []).bind fun r => if 0 < r.length then some m else fw_loop k n l (wrap64 (m + 1))
theorem fw_mono : ∀ k, ∀ n l m, LeO (fw_loop k n l m) (fw_loop (k + 1) n l m)
 | 0 => fun _ _ _ r h => by simp [fw_loop] at h
 | k + 1 => fun n l m => LeO.bind ((fc_mono k).1 _ _ _ _) (fun _ => LeO.ite (LeO.refl _) (fw_mono k _ _ _))
def impl_fewestColours.f (k : Nat) (a0 : Int) (l1 : List S82) : Option Int := fw_loop k a0 l1 1
theorem impl_fewestColours.mono : ∀ a0 a1 k, LeO (impl_fewestColours.f k a0 a1) (impl_fewestColours.f (k + 1) a0 a1) := fun _ _ k => fw_mono k _ _ _
def FcOut (b : Nat) (W : World) (r : List Int) (e : Ending) (w' : World) : Prop := ∃ v', e = .returned v' ∧ Kd.R (Kd.int .i64) 2 w' b (fun _ => True) v' r ∧ Below W.heap.size W w' ∧ ((r = [] ∧ v' = .slice none 0 0) ∨ (0 < r.length ∧ ∃ A N C, v' = .slice (some A) N C))
theorem fc_some {r : List Int} {v' : Value} (h : (r = [] ∧ v' = .slice none 0 0) ∨ (0 < r.length ∧ ∃ A N C, v' = .slice (some A) N C)) (hr : 0 < r.length) : ∃ A N C, v' = .slice (some A) N C := by
 rcases h with ⟨rfl, _⟩ | ⟨_, h⟩
 ·simp at hr
 ·exact h
theorem fc_nil {r : List Int} {v' : Value} (h : (r = [] ∧ v' = .slice none 0 0) ∨ (0 < r.length ∧ ∃ A N C, v' = .slice (some A) N C)) (hr : ¬ 0 < r.length) : r = [] ∧ v' = .slice none 0 0 := by
 rcases h with h | ⟨h, _⟩
 ·exact h
 ·exact absurd h hr
set_option maxRecDepth 100000 in
set_option maxHeartbeats 8000000 in
theorem fc_calls (n m : Int) (lb : Option Addr) (lc : Nat) (l : List S82) (hlc : l.length ≤ lc) : ∀ (k : Nat) (cs : List Int) (r : List Int) (W : World) (b : Nat) (v : Value), b ≤ W.heap.size → Kd.C k82 W lb l.length l → Kd.R (Kd.int .i64) 2 W b (fun _ => True) v cs → fc_walk k n l m cs = some r →
  Calls Tryz.prog 42 #[.int .i64 n, .slice lb l.length lc, .int .i64 m, v] W fun e w' => FcOut b W r e w' := by
 intro k
 induction k using Nat.strongRecOn with
 | ind k ih =>
 intro cs r W b v hbs hL hR h
 cases k with
 | zero => exact absurd h (by simp [fc_walk])
 | succ k =>
  obtain ⟨A, c, rfl, hcc, hC⟩ := Kd.R_reads hR; simp only [fc_walk] at h; by_cases c0 : (cs.length : Int) = n
  ·rw [if_pos c0] at h; (have c0b : ((cs.length : Int) == n) = true := by simp [c0]); by_cases c1 : 0 < cs.length
   ·rw [if_pos c1] at h; obtain rfl := Option.some.inj h; obtain ⟨ad, hA, _⟩ := ax hC 0 (by omega) (by omega); have HA := aa hA; have HR := aa hR; clear h hA hR hC c0 ih hL; go_enter Tryz.func42, Tryz.ntmps42; go_wp2; go_ret; obtain rfl := HA.out; exact ⟨_, rfl, HR.out, Below.refl _ _, Or.inr ⟨c1, _, _, _, rfl⟩⟩
   ·rw [if_neg c1] at h
    cases h
  ·rw [if_neg c0] at h; (have c0b : ((cs.length : Int) == n) = false := by simp [c0]); have IH := aa ih; have H := aa h; have HL := aa hL; have HR := aa hR; have HCC := aa hcc; have HBS := aa hbs; clear h ih hL hR hC c0 hcc hbs; go_enter Tryz.func42, Tryz.ntmps42; go_wp2; clear c0b
   go_loopg [17] k (fun kq v17 w' => ∃ x : Int, v17 = .int .i64 x ∧ Aside0 (fc_loop kq n l m cs x = some r) ∧ Aside0 (kq ≤ k) ∧ Aside0 (Below W.heap.size W w'))
   case atStart => exact ⟨0, rfl, H, ⟨Nat.le_refl _⟩, ⟨Below.refl _ _⟩⟩
   case round =>
    clear H; obtain ⟨x, rfl, HA, HK, HB⟩ := hrel
    cases gk with
    | zero => exact absurd HA.out (by simp [fc_loop])
    | succ k2 =>
     have h := HA.out; clear HA; simp only [fc_loop] at h; by_cases c5 : x < m
     ·rw [if_pos c5] at h; have c5b : decide (x < m) = true := decide_eq_true c5; clear c5; obtain ⟨ok, hok, h⟩ := bf.mp h; have HOK := aa hok; clear hok
      cases ok with
      | false =>
       rw [if_neg (by simp)] at h; have H := aa h; clear h
       go_wp2_with (go_at_call 71; refine (impl_mayHave.calls k2 _ _ l _ _ cs x false _ (ay HL.out HB.out) hlc (aw (be HR.out HB.out)).2.2 HCC.out HOK.out).mono ?_; rintro e_ w1 ⟨rfl, hb1⟩; have HB1 := aa (below_then HB.out HB.out.size hb1); clear hb1)
       go_roundg k2
       case measure => omega
       case rel => exact ⟨_, rfl, H, ⟨by have := HK.out; omega⟩, HB1⟩
      | true =>
       rw [if_pos rfl] at h; by_cases c6 : cs.length < 1000
       ·rw [if_pos c6] at h; obtain ⟨r2, hw, h⟩ := bf.mp h; have HW := aa hw; have C6 := aa c6; clear hw c6
        have hcl : slices_Clone_int64_int64.f cs = some cs := by
         unfold slices_Clone_int64_int64.f; rw [if_pos (by have := C6.out; omega)]
        have HCL := aa hcl; clear hcl; by_cases c7 : 0 < r2.length
        ·rw [if_pos c7] at h; obtain rfl := Option.some.inj h; clear h
         go_wp2_with (first | (go_at_call 71; refine (impl_mayHave.calls k2 _ _ l _ _ cs x true _ (ay HL.out HB.out) hlc (aw (be HR.out HB.out)).2.2 HCC.out HOK.out).mono ?_; rintro e_ w1 ⟨rfl, hb1⟩; have HB1 := aa (below_then HB.out HB.out.size hb1); clear hb1) | (go_at_call 72; refine (slices_Clone_int64_int64.calls _ _ cs cs _ (aw (be HR.out HB1.out)).2.2 HCC.out HCL.out).mono ?_; rintro e_ w2 ⟨vN, rfl, hN, hb2⟩; have HB2 := aa (below_then HB1.out HB1.out.size hb2); obtain ⟨AN, cN, rfl, _, _⟩ := Kd.R_reads hN; have HN := aa (bd hN HB1.out.size); clear hN hb2) | ((with_reducible refine gate_builtin (b := .append) (xs := #[.tmp 28, .tmp 30]) rfl ?_); at_builtin; refine Kd.R_append (Kd.int .i64) (w0 := W) W.heap.size rfl (.tmp 28) (.tmp 30) 27 2 (.int .i64 0) 8 rfl Tryz.underlying27 info2 rfl (by decide) (by omega) (.slice AN cs.length cN) cs x [.int .i64 x] (fun _ => True) (fun _ => False) rfl rfl ?aP (fun _ hk => hk.elim) ?aF ?aO ?aB ?aS ?aL ?_; (case aP => exact rfl); (case aF => exact (fun _ _ => trivial)); (case aO => exact (by (with_reducible repeat (first | apply ah | apply ag | apply ai)); exact HN.out)); (case aB => exact (by repeat (first | (with_reducible first | exact HB2.out | apply ae | apply ab | apply ac) | exact HB2.out))); (case aS => exact (al (by repeat (first | (with_reducible first | exact HB2.out | apply ae | apply ab | apply ac) | exact HB2.out)))); (case aL => have := C6.out; omega); intro v3 w3 ho hb hg hat; obtain ⟨A3, c3, rfl, _, _⟩ := Kd.R_reads ho; rw [show (cs ++ [x]).length = cs.length + 1 from by simp] at ho; have HO := aa (bd ho HBS.out); have HB3 := aa hb; clear ho hb hg hat) | (go_at_call 42; refine (IH.out k2 (by have := HK.out; omega) (cs ++ [x]) r2 _ b _ (Nat.le_trans HBS.out HB3.out.size) (ay HL.out HB3.out) HO.out HW.out).mono ?_; rintro e_ w4 ⟨v4, rfl, hR4, hb4, hv4⟩; have HB4 := aa (below_then HB3.out HB3.out.size hb4); obtain ⟨A4, N4, C4, rfl⟩ := fc_some hv4 c7; have HR4 := aa hR4; clear hR4 hb4 hv4))
         go_ret; exact ⟨_, rfl, HR4.out, HB4.out, Or.inr ⟨c7, _, _, _, rfl⟩⟩
        ·rw [if_neg c7] at h; have H := aa h; clear h
         go_wp2_with (first | (go_at_call 71; refine (impl_mayHave.calls k2 _ _ l _ _ cs x true _ (ay HL.out HB.out) hlc (aw (be HR.out HB.out)).2.2 HCC.out HOK.out).mono ?_; rintro e_ w1 ⟨rfl, hb1⟩; have HB1 := aa (below_then HB.out HB.out.size hb1); clear hb1) | (go_at_call 72; refine (slices_Clone_int64_int64.calls _ _ cs cs _ (aw (be HR.out HB1.out)).2.2 HCC.out HCL.out).mono ?_; rintro e_ w2 ⟨vN, rfl, hN, hb2⟩; have HB2 := aa (below_then HB1.out HB1.out.size hb2); obtain ⟨AN, cN, rfl, _, _⟩ := Kd.R_reads hN; have HN := aa (bd hN HB1.out.size); clear hN hb2) | ((with_reducible refine gate_builtin (b := .append) (xs := #[.tmp 28, .tmp 30]) rfl ?_); at_builtin; refine Kd.R_append (Kd.int .i64) (w0 := W) W.heap.size rfl (.tmp 28) (.tmp 30) 27 2 (.int .i64 0) 8 rfl Tryz.underlying27 info2 rfl (by decide) (by omega) (.slice AN cs.length cN) cs x [.int .i64 x] (fun _ => True) (fun _ => False) rfl rfl ?aP (fun _ hk => hk.elim) ?aF ?aO ?aB ?aS ?aL ?_; (case aP => exact rfl); (case aF => exact (fun _ _ => trivial)); (case aO => exact (by (with_reducible repeat (first | apply ah | apply ag | apply ai)); exact HN.out)); (case aB => exact (by repeat (first | (with_reducible first | exact HB2.out | apply ae | apply ab | apply ac) | exact HB2.out))); (case aS => exact (al (by repeat (first | (with_reducible first | exact HB2.out | apply ae | apply ab | apply ac) | exact HB2.out)))); (case aL => have := C6.out; omega); intro v3 w3 ho hb hg hat; obtain ⟨A3, c3, rfl, _, _⟩ := Kd.R_reads ho; rw [show (cs ++ [x]).length = cs.length + 1 from by simp] at ho; have HO := aa (bd ho HBS.out); have HB3 := aa hb; clear ho hb hg hat) | (go_at_call 42; refine (IH.out k2 (by have := HK.out; omega) (cs ++ [x]) r2 _ b _ (Nat.le_trans HBS.out HB3.out.size) (ay HL.out HB3.out) HO.out HW.out).mono ?_; rintro e_ w4 ⟨v4, rfl, hR4, hb4, hv4⟩; have HB4 := aa (below_then HB3.out HB3.out.size hb4); obtain ⟨rfl, rfl⟩ := fc_nil hv4 c7; clear hR4 hb4 hv4))
         go_roundg k2
         case measure => omega
         case rel => exact ⟨_, rfl, H, ⟨by have := HK.out; omega⟩, HB4⟩
       ·rw [if_neg c6] at h
        cases h
     ·rw [if_neg c5] at h; have c5b : decide (x < m) = false := decide_eq_false c5; clear c5; obtain rfl := Option.some.inj h; clear h; go_wp2; go_ret; exact ⟨_, rfl, Kd.R_nil _ _ _ _ _, HB.out, Or.inl ⟨rfl, rfl⟩⟩
set_option maxRecDepth 100000 in
set_option maxHeartbeats 8000000 in
theorem impl_fewestColours.calls (k : Nat) (a0 : Int) (A1 : Option Addr) (c1 : Nat) (l1 : List S82) (r : Int) (w : World) (hr1 : Kd.C k82 w A1 l1.length l1) (hc1 : l1.length ≤ c1) (h : impl_fewestColours.f k a0 l1 = some r) :
  Calls Tryz.prog 40 #[.int .i64 a0, .slice A1 l1.length c1] w fun e w' => e = .returned (.int .i64 r) ∧ Below w.heap.size w w' := by
 unfold impl_fewestColours.f at h; have H := aa h; have HR1 := aa hr1; clear h hr1; go_enter Tryz.func40, Tryz.ntmps40; go_wp2
 go_loopg [5] k (fun kq v5 w' => ∃ x : Int, v5 = .int .i64 x ∧ Aside0 (fw_loop kq a0 l1 x = some r) ∧ Aside0 (kq ≤ k) ∧ Aside0 (Below w.heap.size w w'))
 case atStart => exact ⟨1, rfl, H, ⟨Nat.le_refl _⟩, ⟨Below.refl _ _⟩⟩
 case round =>
  clear H; obtain ⟨x, rfl, HA, HK, HB⟩ := hrel
  cases gk with
  | zero => exact absurd HA.out (by simp [fw_loop])
  | succ k2 =>
   have h := HA.out; clear HA; simp only [fw_loop] at h; obtain ⟨r2, hw, h⟩ := bf.mp h; have HW := aa hw; clear hw; by_cases c7 : 0 < r2.length
   ·rw [if_pos c7] at h; obtain rfl := Option.some.inj h; clear h
    go_wp2_with (go_at_call 42; refine (fc_calls a0 x _ _ l1 hc1 k2 [] r2 _ w.heap.size (.slice none 0 0) HB.out.size (ay HR1.out HB.out) (Kd.R_nil _ _ _ _ _) HW.out).mono ?_; rintro e_ w4 ⟨v4, rfl, hR4, hb4, hv4⟩; have HB4 := aa (below_then HB.out HB.out.size hb4); obtain ⟨A4, N4, C4, rfl⟩ := fc_some hv4 c7; clear hR4 hb4 hv4)
    rw [Lib.run_eql_slice_nil _ 27 2 _ _ _ _ _ Tryz.underlying27]; go_wp2; go_ret; exact ⟨rfl, HB4.out⟩
   ·rw [if_neg c7] at h; have H := aa h; clear h
    go_wp2_with (go_at_call 42; refine (fc_calls a0 x _ _ l1 hc1 k2 [] r2 _ w.heap.size (.slice none 0 0) HB.out.size (ay HR1.out HB.out) (Kd.R_nil _ _ _ _ _) HW.out).mono ?_; rintro e_ w4 ⟨v4, rfl, hR4, hb4, hv4⟩; have HB4 := aa (below_then HB.out HB.out.size hb4); obtain ⟨rfl, rfl⟩ := fc_nil hv4 c7; clear hR4 hb4 hv4)
    rw [Lib.run_eql_slice_nil _ 27 2 _ _ _ _ _ Tryz.underlying27]; go_wp2; go_roundg k2
    case measure => omega
    case rel => exact ⟨_, rfl, H, ⟨by have := HK.out; omega⟩, HB4⟩
def impl_FewestColours.f (k : Nat) (a0 : Int) (l1 : List (S82)) : Option (Int × Int) := (impl_ValidBorders.f k a0 l1).bind fun t233 => (if t233 = true then ((impl_fewestColours.f k a0 l1).bind fun t234 => (some (t234, 0))) else (some (0, 1)))
theorem impl_FewestColours.mono : ∀ a0 a1 k, LeO (impl_FewestColours.f k a0 a1) (impl_FewestColours.f (k + 1) a0 a1) := by
 intro a0 a1 k; unfold impl_FewestColours.f
 repeat' first
   | (with_reducible exact impl_ValidBorders.mono _ _ _)
   | (with_reducible exact impl_fewestColours.mono _ _ _)
   | (with_reducible exact LeO.refl _)
   | (with_reducible exact LeO.none _)
   | (with_reducible refine LeO.ite ?_ ?_)
   | (with_reducible refine LeO.bind ?_ (fun _ => ?_))
   | exact impl_ValidBorders.mono _ _ _
   | exact impl_fewestColours.mono _ _ _
   | exact LeO.none _
   | refine LeO.ite ?_ ?_
   | refine LeO.bind ?_ (fun _ => ?_)
set_option maxHeartbeats 8000000 in
set_option maxRecDepth 100000 in
theorem impl_FewestColours.calls (k : Nat) (a0 : Int) (A1 : Option Addr) (c1 : Nat) (l1 : List (S82)) (r1 : Int) (r2 : Int) (w : World) (hr1 : Kd.C k82 w A1 l1.length l1) (hc1 : l1.length ≤ c1) (h : impl_FewestColours.f k a0 l1 = some (r1, r2)) :
  Calls Tryz.prog 12 #[.int .i64 a0, .slice A1 l1.length c1] w fun e w' => e = .returned (.tuple #[.int .i64 r1, .int .i64 r2]) ∧ Below w.heap.size w w' := by
 have HR1 := aa hr1; have HC1 := aa hc1; clear hr1 hc1; have HB := aa (Below.refl w.heap.size w); have H : ((impl_ValidBorders.f k a0 l1).bind fun t233 => (if t233 = true then ((impl_fewestColours.f k a0 l1).bind fun t234 => (some (t234, 0))) else (some (0, 1)))) = some (r1, r2) := h; clear h; replace H := bf.mp H; obtain ⟨t233, A30, H⟩ := H; (try dsimp only at H); have A3 := aa A30; clear A30; by_cases c4 : t233 = true
 ·subst c4; (have H1 : ((impl_fewestColours.f k a0 l1).bind fun t234 => (some (t234, 0))) = some (r1, r2) := by rw [if_pos rfl] at H; exact H); clear H; have H := H1; clear H1; replace H := bf.mp H; obtain ⟨t234, A50, H⟩ := H; replace H : (some (t234, 0)) = some (r1, r2) := H; have A5 := aa A50; clear A50; simp only [Option.some.injEq, Prod.mk.injEq] at H; obtain ⟨rfl, rfl⟩ := H; go_enter Tryz.func12, Tryz.ntmps12
  go_wp2_with (first | ((with_reducible refine gate_callee (f := 39) rfl ?_); refine goesL_ (some 8) rfl rfl Tryz.func39 (by kernel_rfl) rfl #[.int .i64 a0, .slice A1 l1.length c1] rfl (by (try simp only [b3, b4, b5]); first | done | rfl | (simp only [b0, b2]; rfl)) ?_; (with_reducible refine (impl_ValidBorders.calls k a0 _ _ l1 true _ ?side1 ?side2 A3.out).mono ?_); (case side1 => repeat (first | exact HR1.out | (with_reducible refine ar ?_ _) | (with_reducible refine au ?_ _) | (with_reducible refine av ?_))); (case side2 => exact HC1.out); rintro e w6 ⟨rfl, hb⟩; refine ⟨_, rfl, ?_⟩; have n0_ := aa (af (by repeat (first | (with_reducible first | exact HB.out | apply ae | apply ab | apply ac) | exact HB.out)) hb); clear HB; have HB := n0_; clear n0_; (try clear hb); (try clear hb2); (try clear hk); (try clear hi)) | ((with_reducible refine gate_callee (f := 40) rfl ?_); refine goesL_ (some 12) rfl rfl Tryz.func40 (by kernel_rfl) rfl #[.int .i64 a0, .slice A1 l1.length c1] rfl (by (try simp only [b3, b4, b5]); first | done | rfl | (simp only [b0, b2]; rfl)) ?_; (with_reducible refine (impl_fewestColours.calls k a0 _ _ l1 t234 _ ?side1 ?side2 A5.out).mono ?_); (case side1 => repeat (first | exact (ay HR1.out HB.out) | (with_reducible refine ar ?_ _) | (with_reducible refine au ?_ _) | (with_reducible refine av ?_))); (case side2 => exact HC1.out); rintro e w7 ⟨rfl, hb⟩; refine ⟨_, rfl, ?_⟩; have n0_ := aa (af (by repeat (first | (with_reducible first | exact HB.out | apply ae | apply ab | apply ac) | exact HB.out)) hb); clear HB; have HB := n0_; clear n0_; (try clear hb); (try clear hb2); (try clear hk); (try clear hi)))
  go_ret2; exact ⟨by first | rfl | (simp [errW_none, errW_some] <;> rfl) | (simp [*, errW_none, errW_some] <;> rfl), by repeat (first | (with_reducible first | exact HB.out | apply ae | apply ab | apply ac) | exact HB.out)⟩
 ·replace c4 := Bool.eq_false_iff.mpr c4; subst c4; (have H1 : (some (0, 1)) = some (r1, r2) := by rw [if_neg (show ¬ (false = true) by decide)] at H; exact H); clear H; have H := H1; clear H1; simp only [Option.some.injEq, Prod.mk.injEq] at H; obtain ⟨rfl, rfl⟩ := H; go_enter Tryz.func12, Tryz.ntmps12
  go_wp2_with (first | ((with_reducible refine gate_callee (f := 39) rfl ?_); refine goesL_ (some 8) rfl rfl Tryz.func39 (by kernel_rfl) rfl #[.int .i64 a0, .slice A1 l1.length c1] rfl (by (try simp only [b3, b4, b5]); first | done | rfl | (simp only [b0, b2]; rfl)) ?_; (with_reducible refine (impl_ValidBorders.calls k a0 _ _ l1 false _ ?side1 ?side2 A3.out).mono ?_); (case side1 => repeat (first | exact HR1.out | (with_reducible refine ar ?_ _) | (with_reducible refine au ?_ _) | (with_reducible refine av ?_))); (case side2 => exact HC1.out); rintro e w8 ⟨rfl, hb⟩; refine ⟨_, rfl, ?_⟩; have n0_ := aa (af (by repeat (first | (with_reducible first | exact HB.out | apply ae | apply ab | apply ac) | exact HB.out)) hb); clear HB; have HB := n0_; clear n0_; (try clear hb); (try clear hb2); (try clear hk); (try clear hi)))
  go_ret2; exact ⟨by first | rfl | (simp [errW_none, errW_some] <;> rfl) | (simp [*, errW_none, errW_some] <;> rfl), by repeat (first | (with_reducible first | exact HB.out | apply ae | apply ab | apply ac) | exact HB.out)⟩
def impl_manyCode.f (k : Nat) (a0 : Int) (l1 : List (S82)) (a2 : Int) : Option (Int) := (impl_ValidBorders.f k a0 l1).bind fun t235 => ((impl_within.f a2 1 6).bind fun t236 => ((impl_check.f t235 t236).bind fun t237 => (some t237)))
theorem impl_manyCode.mono : ∀ a0 a1 a2 k, LeO (impl_manyCode.f k a0 a1 a2) (impl_manyCode.f (k + 1) a0 a1 a2) := by
 intro a0 a1 a2 k; unfold impl_manyCode.f
 repeat' first
   | (with_reducible exact impl_ValidBorders.mono _ _ _)
   | (with_reducible exact LeO.refl _)
   | (with_reducible exact LeO.none _)
   | (with_reducible refine LeO.ite ?_ ?_)
   | (with_reducible refine LeO.bind ?_ (fun _ => ?_))
   | exact impl_ValidBorders.mono _ _ _
   | exact LeO.none _
   | refine LeO.ite ?_ ?_
   | refine LeO.bind ?_ (fun _ => ?_)
set_option maxHeartbeats 8000000 in
set_option maxRecDepth 100000 in
theorem impl_manyCode.calls (k : Nat) (a0 : Int) (A1 : Option Addr) (c1 : Nat) (l1 : List (S82)) (a2 : Int) (r : Int) (w : World) (hr1 : Kd.C k82 w A1 l1.length l1) (hc1 : l1.length ≤ c1) (h : impl_manyCode.f k a0 l1 a2 = some r) :
  Calls Tryz.prog 41 #[.int .i64 a0, .slice A1 l1.length c1, .int .i64 a2] w fun e w' => e = .returned (.int .i64 r) ∧ Below w.heap.size w w' := by
 have HR1 := aa hr1; have HC1 := aa hc1; clear hr1 hc1; have HB := aa (Below.refl w.heap.size w); have H : ((impl_ValidBorders.f k a0 l1).bind fun t235 => ((impl_within.f a2 1 6).bind fun t236 => ((impl_check.f t235 t236).bind fun t237 => (some t237)))) = some r := h; clear h; replace H := bf.mp H; obtain ⟨t235, A40, H⟩ := H; (try dsimp only at H); have A4 := aa A40; clear A40; replace H := bf.mp H; obtain ⟨t236, A50, H⟩ := H; replace H : ((impl_check.f t235 t236).bind fun t237 => (some t237)) = some r := H; have A5 := aa A50; clear A50; replace H := bf.mp H; obtain ⟨t237, A60, H⟩ := H; replace H : (some t237) = some r := H; have A6 := aa A60; clear A60; obtain rfl := Option.some.inj H; go_enter Tryz.func41, Tryz.ntmps41
 go_wp2_with (first | ((with_reducible refine gate_callee (f := 39) rfl ?_); refine goesL_ (some 9) rfl rfl Tryz.func39 (by kernel_rfl) rfl #[.int .i64 a0, .slice A1 l1.length c1] rfl (by (try simp only [b3, b4, b5]); first | done | rfl | (simp only [b0, b2]; rfl)) ?_; (with_reducible refine (impl_ValidBorders.calls k a0 _ _ l1 t235 _ ?side1 ?side2 A4.out).mono ?_); (case side1 => repeat (first | exact HR1.out | (with_reducible refine ar ?_ _) | (with_reducible refine au ?_ _) | (with_reducible refine av ?_))); (case side2 => exact HC1.out); rintro e w7 ⟨rfl, hb⟩; refine ⟨_, rfl, ?_⟩; have n0_ := aa (af (by repeat (first | (with_reducible first | exact HB.out | apply ae | apply ab | apply ac) | exact HB.out)) hb); clear HB; have HB := n0_; clear n0_; (try clear hb); (try clear hb2); (try clear hk); (try clear hi)) | ((with_reducible refine gate_callee (f := 49) rfl ?_); refine goesL_ (some 11) rfl rfl Tryz.func49 (by kernel_rfl) rfl #[.int .i64 a2, .int .i64 1, .int .i64 6] rfl (by (try simp only [b3, b4, b5]); first | done | rfl | (simp only [b0, b2]; rfl)) ?_; (with_reducible refine (impl_within.calls a2 1 6 t236 _ A5.out).mono ?_); rintro e w' ⟨rfl, ⟨nd, rfl⟩⟩; refine ⟨_, rfl, ?_⟩) | ((with_reducible refine gate_callee (f := 30) rfl ?_); refine goesL_ (some 12) rfl rfl Tryz.func30 (by kernel_rfl) rfl #[.bool t235, .bool t236] rfl (by (try simp only [b3, b4, b5]); first | done | rfl | (simp only [b0, b2]; rfl)) ?_; (with_reducible refine (impl_check.calls t235 t236 t237 _ A6.out).mono ?_); rintro e w' ⟨rfl, ⟨nd, rfl⟩⟩; refine ⟨_, rfl, ?_⟩))
 go_ret; exact ⟨by first | rfl | (simp [errW_none, errW_some] <;> rfl) | (simp [*, errW_none, errW_some] <;> rfl), by repeat (first | (with_reducible first | exact HB.out | apply ae | apply ab | apply ac) | exact HB.out)⟩
def impl_FirstColours.f (k : Nat) (a0 : Int) (l1 : List S82) (a2 : Int) : Option (List Int × Int) := (impl_manyCode.f k a0 l1 a2).bind fun t => if t = 0 then ((fc_walk k a0 l1 a2 []).bind fun r => if 0 < r.length then some (r, 0) else some ([], 3)) else some ([], t)
theorem impl_FirstColours.mono : ∀ a0 a1 a2 k, LeO (impl_FirstColours.f k a0 a1 a2) (impl_FirstColours.f (k + 1) a0 a1 a2) := fun _ _ _ k => LeO.bind (impl_manyCode.mono _ _ _ _) (fun _ => LeO.ite (LeO.bind ((fc_mono k).1 _ _ _ _) (fun _ => LeO.refl _)) (LeO.refl _))
set_option maxRecDepth 100000 in
set_option maxHeartbeats 8000000 in
theorem impl_FirstColours.calls (k : Nat) (a0 : Int) (A1 : Option Addr) (c1 : Nat) (l1 : List S82) (a2 : Int) (r1 : List Int) (r2 : Int) (w : World) (hr1 : Kd.C k82 w A1 l1.length l1) (hc1 : l1.length ≤ c1) (h : impl_FirstColours.f k a0 l1 a2 = some (r1, r2)) :
  Calls Tryz.prog 13 #[.int .i64 a0, .slice A1 l1.length c1, .int .i64 a2] w fun e w' => ∃ v0_ : Value, e = .returned (.tuple #[v0_, .int .i64 r2]) ∧ Kd.R (Kd.int .i64) 2 w' w.heap.size (fun _ => True) v0_ r1 ∧ Below w.heap.size w w' := by
 unfold impl_FirstColours.f at h; obtain ⟨t, ht, h⟩ := bf.mp h; have HT := aa ht; have HR1 := aa hr1; clear ht hr1; by_cases c0 : t = 0
 ·subst c0; rw [if_pos rfl] at h; obtain ⟨r, hr, h⟩ := bf.mp h; have HW := aa hr; clear hr; by_cases c1_ : 0 < r.length
  ·rw [if_pos c1_] at h; have e := Option.some.inj h; simp only [Prod.mk.injEq] at e; obtain ⟨rfl, rfl⟩ := e; clear h; go_enter Tryz.func13, Tryz.ntmps13
   go_wp2_with (first | (go_at_call 41; refine (impl_manyCode.calls k a0 _ _ l1 a2 0 _ HR1.out hc1 HT.out).mono ?_; rintro e_ w1 ⟨rfl, hb1⟩; have HB1 := aa hb1; clear hb1) | (go_at_call 42; refine (fc_calls a0 a2 _ _ l1 hc1 k [] r _ w.heap.size (.slice none 0 0) HB1.out.size (ay HR1.out HB1.out) (Kd.R_nil _ _ _ _ _) HW.out).mono ?_; rintro e_ w4 ⟨v4, rfl, hR4, hb4, hv4⟩; have HB4 := aa (below_then HB1.out HB1.out.size hb4); obtain ⟨A4, N4, C4, rfl⟩ := fc_some hv4 c1_; have HR4 := aa hR4; clear hR4 hb4 hv4))
   rw [Lib.run_eql_slice_nil _ 27 2 _ _ _ _ _ Tryz.underlying27]; go_wp2; go_ret2; exact ⟨_, rfl, HR4.out, HB4.out⟩
  ·rw [if_neg c1_] at h; have e := Option.some.inj h; simp only [Prod.mk.injEq] at e; obtain ⟨rfl, rfl⟩ := e; clear h; go_enter Tryz.func13, Tryz.ntmps13
   go_wp2_with (first | (go_at_call 41; refine (impl_manyCode.calls k a0 _ _ l1 a2 0 _ HR1.out hc1 HT.out).mono ?_; rintro e_ w1 ⟨rfl, hb1⟩; have HB1 := aa hb1; clear hb1) | (go_at_call 42; refine (fc_calls a0 a2 _ _ l1 hc1 k [] r _ w.heap.size (.slice none 0 0) HB1.out.size (ay HR1.out HB1.out) (Kd.R_nil _ _ _ _ _) HW.out).mono ?_; rintro e_ w4 ⟨v4, rfl, hR4, hb4, hv4⟩; have HB4 := aa (below_then HB1.out HB1.out.size hb4); obtain ⟨rfl, rfl⟩ := fc_nil hv4 c1_; clear hR4 hb4 hv4))
   rw [Lib.run_eql_slice_nil _ 27 2 _ _ _ _ _ Tryz.underlying27]; go_wp2; go_ret2; exact ⟨_, rfl, Kd.R_nil _ _ _ _ _, HB4.out⟩
 ·rw [if_neg c0] at h; have e := Option.some.inj h; simp only [Prod.mk.injEq] at e; obtain ⟨rfl, rfl⟩ := e; clear h; have c0b : (t != 0) = true := bne_iff_ne.mpr c0; clear c0; go_enter Tryz.func13, Tryz.ntmps13
  go_wp2_with (go_at_call 41; refine (impl_manyCode.calls k a0 _ _ l1 a2 t _ HR1.out hc1 HT.out).mono ?_; rintro e_ w1 ⟨rfl, hb1⟩; have HB1 := aa hb1; clear hb1)
  go_ret2; exact ⟨_, rfl, Kd.R_nil _ _ _ _ _, HB1.out⟩
def impl_areColours_1.f (a0 : Int) : Option (Bool) := (impl_within.f a0 0 9).bind fun t238 => (some (!t238))
set_option maxHeartbeats 8000000 in
set_option maxRecDepth 100000 in
theorem impl_areColours_1.calls (a0 : Int) (r : Bool) (w : World) (h : impl_areColours_1.f a0 = some r) :
  Calls Tryz.prog 74 #[.int .i64 a0] w fun e w' => e = .returned (.bool r) ∧ Drawn0 w w' := by
 have H : ((impl_within.f a0 0 9).bind fun t238 => (some (!t238))) = some r := h; clear h; replace H := bf.mp H; obtain ⟨t238, A20, H⟩ := H; replace H : (some (!t238)) = some r := H; have A2 := aa A20; clear A20; obtain rfl := Option.some.inj H; go_enter Tryz.func74, Tryz.ntmps74
 go_wp2_with (first | ((with_reducible refine gate_callee (f := 49) rfl ?_); refine goesL_ (some 4) rfl rfl Tryz.func49 (by kernel_rfl) rfl #[.int .i64 a0, .int .i64 0, .int .i64 9] rfl (by (try simp only [b3, b4, b5]); first | done | rfl | (simp only [b0, b2]; rfl)) ?_; (with_reducible refine (impl_within.calls a0 0 9 t238 _ A2.out).mono ?_); rintro e w' ⟨rfl, ⟨nd, rfl⟩⟩; refine ⟨_, rfl, ?_⟩))
 go_ret; exact ⟨by first | rfl | (simp; done) | (simp [*]; done), by repeat (first | exact Drawn0.refl _ | apply Drawn0.step)⟩
end Go.Proofs.YtmgljagkmaoopaaGreat.QFnTopOfAll
