/- Walks of the Go functions that the law FnRepairs reaches: written by a program of this session. -/
import Derived.Test.YtfajacoagaamlaaQFnRepairsx0
import Derived.Test.YtfajacoagaamlaaQFnRepairsx2
import Derived.Test.YtfajacoagaamlaaQFnRepairsx3
namespace Go.Proofs.Ytfajacoagaamlaa.QFnRepairs
open Go.RowKit Go.Proofs.YtfajacoagaamlaaW.PrintWords Go.Proofs.YtfajacoagaamlaaW.PrintLast Go.Proofs.YtfajacoagaamlaaW.PrintMore
attribute [local go_sem] max2_int min2_int max_two min_two max_three min_three max_four min_four   -- for this text's walks alone
open Go.Proofs.YtfajacoagaamlaaW.PrintWords renaming add_block → bg, below_alloc → ah, below_drew1 → ag, below_set → ao, below_size → ar, below_step → ay, blk_alloc → bi, blk_cell → be, blk_drew → bk, blk_drewN → bh, blk_frozen → bb, pw_below_drewN → ae
open Go.Proofs.YtfajacoagaamlaaW.PrintWords.Aside0 renaming mk → aa
open Go.Proofs.YtfajacoagaamlaaW.PrintWords.Kd renaming C_alloc → ak, C_below → bl, C_drew → am, C_drewN → al, R_alloc → ab, R_below → aq, R_drew → af, R_drewN → ac, R_lower → bd, R_mono → an, R_reads' → ai, R_slice → ap, at_int → bj
open Go.World renaming drewN_drewN → aj
open Option renaming bind_eq_some_iff → bm
set_option linter.unusedVariables false
set_option linter.unusedSimpArgs false

/-! ### impl_stepsCode: function 70 -/
/-! slices.IndexFunc and slices.ContainsFunc of []impl.Repair at a predicate that may lay blocks of its own -/
theorem repairs_mem (l0 : List S64) (kk : Nat) (h : kk < l0.length) : rd_T64 l0 (kk : Int) ∈ l0 := by
 unfold rd_T64
 rw [Int.toNat_natCast, List.getD_eq_getElem?_getD, List.getElem?_eq_getElem h]
 exact List.getElem_mem _
theorem repairs_none (p : S64 → Bool) (l0 : List S64) (h : ∀ j : Nat, j < l0.length → p (rd_T64 l0 (j : Int)) = false) : l0.any p = false := by
 rw [List.any_eq_false]
 intro x hx
 obtain ⟨j, hj, rfl⟩ := List.getElem_of_mem hx
 have := h j hj
 unfold rd_T64 at this
 rw [Int.toNat_natCast, List.getD_eq_getElem?_getD, List.getElem?_eq_getElem hj] at this
 simpa using this
set_option maxHeartbeats 2000000 in
theorem repairs_IndexFunc (p : S64 → Bool) (g : Nat) (lb : Array Value) (eg : ∀ args w, (callFunc g args).run Try.prog w = .ok (.enter g args) w) (A0 : Option Addr) (c0 : Nat) (l0 : List S64) (w : World) (hr0 : Kd.C k64 w A0 l0.length l0)
  (hp : ∀ (x : S64) (W : World), Below w.heap.size w W → Calls Try.prog g (#[.agg #[.int .i64 x.f0, .int .i64 x.f1, .int .i64 x.f2]] ++ lb) W fun e w' => e = .returned (.bool (p x)) ∧ Below w.heap.size w w') :
  Calls Try.prog 119 #[.slice A0 l0.length c0, .func (.func g) #[] lb] w fun e w' => (∃ r : Int, e = .returned (.int .i64 r) ∧ decide (0 ≤ r) = l0.any p) ∧ Below w.heap.size w w' := by
 have hbig := Kd.C_max hr0
 have hlen : (l0.length : Int) ≤ 9223372036854775807 := by omega
 have HR := aa hr0
 have HP := aa hp
 clear hr0 hp
 go_enter Try.func119, Try.ntmps119
 go_wp2
 go_loopg [5, 8] l0.length (fun gg _ s8 wr => ∃ kk : Nat, kk ≤ l0.length ∧ l0.length - kk ≤ gg ∧ s8 = .int .i64 kk ∧ Aside0 (Below w.heap.size w wr) ∧ Aside0 (∀ j : Nat, j < kk → p (rd_T64 l0 (j : Int)) = false))
 case atStart => exact ⟨0, Nat.zero_le _, by omega, rfl, ⟨Below.refl _ w⟩, ⟨fun j hj => absurd hj (Nat.not_lt_zero _)⟩⟩
 case round =>
  obtain ⟨kk, hkk, hg, rfl, BW, A⟩ := hrel
  by_cases hlt : kk < l0.length
  ·have hltz : (kk : Int) < (l0.length : Int) := by omega
   obtain ⟨ad, hA, hx0, hx1, hx2⟩ := at_T64 (bl HR.out BW.out) (kk : Int) (by omega) hltz
   cases hA
   have hcall := HP.out (rd_T64 l0 (kk : Int)) wr BW.out
   have hm0 := repairs_mem l0 kk hlt
   have hs0 : p (rd_T64 l0 (kk : Int)) = p (rd_T64 l0 (kk : Int)) := rfl
   rw [Int.toNat_natCast] at hx0 hx1 hx2
   generalize hy : rd_T64 l0 (kk : Int) = y at hx0 hx1 hx2 hcall hm0
   have B := aa hy
   have M := aa hm0
   clear hy hs0 hm0
   cases hq : p y with
   | true =>
    rw [hq] at hcall
    go_wp2_with ((with_reducible refine hcall.mono ?_); rintro e w' ⟨rfl, hb'⟩)
    go_ret
    refine ⟨⟨(kk : Int), rfl, ?_⟩, hb'⟩
    rw [List.any_eq_true.2 ⟨y, M.out, hq⟩]
    exact decide_eq_true (by omega)
   | false =>
    rw [hq] at hcall
    go_wp2_with ((with_reducible refine hcall.mono ?_); rintro e w' ⟨rfl, hb'⟩)
    go_roundg (l0.length - (kk + 1))
    case measure => omega
    case rel =>
     refine ⟨kk + 1, by omega, by omega, by go_num, ⟨hb'⟩, ⟨fun j hj => ?_⟩⟩
     by_cases e : j = kk
     ·subst e; rw [B.out]; exact hq
     ·exact A.out j (by omega)
  ·have hltz : ¬ (kk : Int) < (l0.length : Int) := by omega
   go_wp2
   go_ret
   refine ⟨⟨-1, rfl, ?_⟩, BW.out⟩
   rw [repairs_none p l0 (fun j hj => A.out j (by omega))]
   rfl
set_option maxHeartbeats 1000000 in
theorem repairs_ContainsFunc (p : S64 → Bool) (g : Nat) (lb : Array Value) (eg : ∀ args w, (callFunc g args).run Try.prog w = .ok (.enter g args) w) (A0 : Option Addr) (c0 : Nat) (l0 : List S64) (w : World) (hr0 : Kd.C k64 w A0 l0.length l0)
  (hp : ∀ (x : S64) (W : World), Below w.heap.size w W → Calls Try.prog g (#[.agg #[.int .i64 x.f0, .int .i64 x.f1, .int .i64 x.f2]] ++ lb) W fun e w' => e = .returned (.bool (p x)) ∧ Below w.heap.size w w') :
  Calls Try.prog 102 #[.slice A0 l0.length c0, .func (.func g) #[] lb] w fun e w' => e = .returned (.bool (l0.any p)) ∧ Below w.heap.size w w' := by
 have hcon := repairs_IndexFunc p g lb eg A0 c0 l0 w hr0 hp
 generalize l0.any p = b at hcon
 clear hr0 hp
 go_enter Try.func102, Try.ntmps102
 go_wp2_with (go_at_call 119; refine hcon.mono ?_; rintro e w' ⟨⟨q, rfl, hq⟩, hb⟩; have HB := aa hb; have HQ := aa hq; clear hb hq)
 go_ret
 refine ⟨?_, HB.out⟩
 rw [← HQ.out]
 rfl
theorem within_is (a b c : Int) : impl_within.f a b c = some (decide (b ≤ a ∧ a ≤ c)) := by
 unfold impl_within.f
 by_cases h : a ≥ b
 ·rw [if_pos h]; simp [show b ≤ a from h]
 ·rw [if_neg h]; simp [show ¬ b ≤ a from h]
theorem state_is (a : Int) : impl_isState.f a = some (decide (0 ≤ a ∧ a ≤ 3)) := by
 unfold impl_isState.f
 rw [within_is]; rfl
set_option maxHeartbeats 4000000 in
set_option maxRecDepth 100000 in
theorem wrong_lit (A0 : Option Addr) (n c0 : Nat) (a b c : Int) (B : Nat) (W : World) (hB : B < W.heap.size) (hc : W.cell? ⟨B, 0, none⟩ = some (.slice A0 n c0)) :
  Calls Try.prog 99 #[.agg #[.int .i64 a, .int .i64 b, .int .i64 c], .pointer (some ⟨B, 0, none⟩)] W fun e w' => e = .returned (.bool (!stepOk n ⟨a, b, c⟩)) ∧ Below W.heap.size W w' := by
 have i1 := aa (within_is a 0 (wrap64 (n - 1)))
 have i2 := aa (state_is b)
 have i3 := aa (state_is c)
 have hs : (!stepOk n ⟨a, b, c⟩) = (!(decide (0 ≤ a ∧ a ≤ wrap64 (n - 1)) && (decide (0 ≤ b ∧ b ≤ 3) && (decide (0 ≤ c ∧ c ≤ 3) && decide (b ≠ c))))) := rfl
 rw [hs]
 clear hs
 have hne : B ≠ W.heap.size := by omega
 generalize decide (0 ≤ a ∧ a ≤ wrap64 (n - 1)) = b1 at i1 ⊢
 generalize decide (0 ≤ b ∧ b ≤ 3) = b2 at i2 ⊢
 generalize decide (0 ≤ c ∧ c ≤ 3) = b3 at i3 ⊢
 cases b1 <;> cases b2 <;> cases b3 <;>
 ·go_enter Try.func99, Try.ntmps99
  go_wp2_with (first | (go_at_call 93; (try simp only [Go.IntWalk.i64_left]); (with_reducible refine (impl_within.calls a 0 (wrap64 (n - 1)) _ _ i1.out).mono ?_); rintro e w' ⟨rfl, ⟨nd, rfl⟩⟩) | (go_at_call 100; (with_reducible refine (impl_isState.calls b _ _ i2.out).mono ?_); rintro e w' ⟨rfl, ⟨nd, rfl⟩⟩) | (go_at_call 100; (with_reducible refine (impl_isState.calls c _ _ i3.out).mono ?_); rintro e w' ⟨rfl, ⟨nd, rfl⟩⟩))
  go_ret
  exact ⟨by first | rfl | (simp; done) | (simp; rfl) | (simp [bne]; done), by repeat (first | exact Below.refl _ _ | (with_reducible first | apply ae | apply ag | apply ah))⟩
def impl_stepsCode.f (l0 : List Int) (l1 : List S64) : Option (Int) := (impl_ValidStates.f l0).bind fun t => impl_check.f t (decide ((l1.length : Int) ≤ 60) && l1.all (stepOk l0.length))
set_option maxHeartbeats 4000000 in
set_option maxRecDepth 100000 in
theorem impl_stepsCode.calls (A0 : Option Addr) (c0 : Nat) (l0 : List Int) (A1 : Option Addr) (c1 : Nat) (l1 : List S64) (r : Int) (w : World) (hr0 : Kd.C (Kd.int .i64) w A0 l0.length l0) (hc0 : l0.length ≤ c0) (hr1 : Kd.C k64 w A1 l1.length l1) (hc1 : l1.length ≤ c1) (h : impl_stepsCode.f l0 l1 = some r) :
  Calls Try.prog 70 #[.slice A0 l0.length c0, .slice A1 l1.length c1] w fun e w' => e = .returned (.int .i64 r) ∧ Below w.heap.size w w' := by
 obtain ⟨t, ht, h⟩ := bm.mp h
 have eg : ∀ args w, (callFunc 99 args).run Try.prog w = .ok (.enter 99 args) w := Go.Proofs.Ytfajacoagaamlaa.Hand.enters Try.func99 (by kernel_rfl) rfl
 have hb : Below w.heap.size w (w.alloc (.cells #[.slice A0 l0.length c0] 22)) := (Below.refl _ w).alloc (Nat.le_refl _) _
 have hcell : (w.alloc (.cells #[.slice A0 l0.length c0] 22)).cell? ⟨w.heap.size, 0, none⟩ = some (.slice A0 l0.length c0) := by go_simp
 have hsz : (w.alloc (.cells #[.slice A0 l0.length c0] 22)).heap.size = w.heap.size + 1 := by simp
 generalize hwa : w.alloc (.cells #[.slice A0 l0.length c0] 22) = wa at hb hcell hsz
 have hcon : ∀ w1, Below wa.heap.size wa w1 → Calls Try.prog 102 #[.slice A1 l1.length c1, .func (.func 99) #[] #[.pointer (some ⟨w.heap.size, 0, none⟩)]] w1 fun e w' => e = .returned (.bool (l1.any fun x => !stepOk l0.length x)) ∧ Below w1.heap.size w1 w' := fun w1 hw1 =>
  repairs_ContainsFunc (fun x => !stepOk l0.length x) 99 #[.pointer (some ⟨w.heap.size, 0, none⟩)] eg A1 c1 l1 w1 (bl (bl hr1 hb) hw1)
   (fun x W hW => (wrong_lit A0 l0.length c0 x.f0 x.f1 x.f2 w.heap.size W (by have h1 := hw1.size; have h2 := hW.size; omega) ((hW.cell (p := ⟨w.heap.size, 0, none⟩) (by show w.heap.size < w1.heap.size; have h1 := hw1.size; omega)).trans ((hw1.cell (p := ⟨w.heap.size, 0, none⟩) (by show w.heap.size < wa.heap.size; omega)).trans hcell))).mono fun e w' hh => ⟨hh.1, hW.trans (hh.2.mono hW.size)⟩)
 subst hwa
 have hres : impl_check.f t (decide ((l1.length : Int) ≤ 60) && !l1.any fun x => !stepOk l0.length x) = some r := by rw [← h, List.all_eq_not_any_not]
 clear h
 generalize (l1.any fun x => !stepOk l0.length x) = b at hcon hres
 have HT := aa ht
 have HRA := aa (bl hr0 hb)
 have HC0 := aa hc0
 have HB := aa hb
 have HCON := aa hcon
 have HSZ := aa hsz
 clear ht hr0 hc0 hb hcon hcell hsz hr1 eg
 by_cases hle : (l1.length : Int) ≤ 60
 ·rw [decide_eq_true hle, Bool.true_and] at hres
  have hd := decide_eq_true hle
  have HCK := aa hres
  clear hres
  go_enter Try.func70, Try.ntmps70
  go_wp2_with (first | (go_at_call 17; refine (impl_ValidStates.calls _ _ l0 t _ HRA.out HC0.out HT.out).mono ?_; rintro e w1 ⟨rfl, hb1⟩; have HB1 := aa hb1; clear hb1) | (go_at_call 102; refine (HCON.out _ HB1.out).mono ?_; rintro e w2 ⟨rfl, hb2⟩; have HB2 := aa hb2; clear hb2) | (go_at_call 101; refine (impl_check.calls _ _ r _ HCK.out).mono ?_; rintro e w3 ⟨rfl, ⟨nd, rfl⟩⟩))
  go_ret
  have h1 := HB1.out.size
  have hz := HSZ.out
  exact ⟨rfl, ae ((HB.out.trans (HB1.out.mono (by omega))).trans (HB2.out.mono (by omega))) _⟩
 ·rw [decide_eq_false hle, Bool.false_and] at hres
  have hd := decide_eq_false hle
  have HCK := aa hres
  clear hres
  go_enter Try.func70, Try.ntmps70
  go_wp2_with (first | (go_at_call 17; refine (impl_ValidStates.calls _ _ l0 t _ HRA.out HC0.out HT.out).mono ?_; rintro e w1 ⟨rfl, hb1⟩; have HB1 := aa hb1; clear hb1) | (go_at_call 101; refine (impl_check.calls _ _ r _ HCK.out).mono ?_; rintro e w3 ⟨rfl, ⟨nd, rfl⟩⟩))
  go_ret
  have hz := HSZ.out
  exact ⟨rfl, ae (HB.out.trans (HB1.out.mono (by omega))) _⟩


/-! ### slices_Clone_int64_int64: function 103 -/
def slices_Clone_int64_int64.f (l0 : List Int) : Option (List Int) := if l0.length < 17592186044416 then some l0 else none
set_option maxHeartbeats 4000000 in
set_option maxRecDepth 100000 in
theorem slices_Clone_int64_int64.calls (A0 : Option Addr) (c0 : Nat) (l0 : List Int) (r : List Int) (w : World) (hr0 : Kd.C (Kd.int .i64) w A0 l0.length l0) (hc0 : l0.length ≤ c0) (h : slices_Clone_int64_int64.f l0 = some r) :
  Calls Try.prog 103 #[.slice A0 l0.length c0] w fun e w' => ∃ v0_ : Value, e = .returned (v0_) ∧ Kd.R (Kd.int .i64) 2 w' w.heap.size (fun _ => True) v0_ r ∧ Below w.heap.size w w' := by
 unfold slices_Clone_int64_int64.f at h
 by_cases hl : l0.length < 17592186044416
 case neg => rw [if_neg hl] at h; exact absurd h (by simp)
 rw [if_pos hl] at h
 obtain rfl := Option.some.inj h
 clear h
 cases A0 with
 | none =>
  have h0 : l0 = [] := by
   cases l0 with
   | nil => rfl
   | cons x l => obtain ⟨ad, ha, _⟩ := hr0.2.2 (by simp); cases ha
  subst h0
  clear hr0 hc0 hl
  have q22 : ∀ (w : World) (a : Option Addr) (n c n' c' : Nat), (binOp .eql 22 (.slice a n c) (.slice none n' c')).run Try.prog w = .ok (.bool a.isNone) w := fun w a n c n' c' => Lib.run_eql_slice_nil w _ _ a n c n' c' Try.underlying22
  go_enter Try.func103, Try.ntmps103
  go_wp2
  go_ret
  exact ⟨_, rfl, Kd.R_nil _ _ _ _ _, Below.refl _ _⟩
 | some ad =>
  have HR0 := aa hr0
  have HC0 := aa hc0
  have HL := aa hl
  clear hr0 hc0 hl
  have HB := aa (Below.refl w.heap.size w)
  have q22 : ∀ (w : World) (a : Option Addr) (n c n' c' : Nat), (binOp .eql 22 (.slice a n c) (.slice none n' c')).run Try.prog w = .ok (.bool a.isNone) w := fun w a n c n' c' => Lib.run_eql_slice_nil w _ _ a n c n' c' Try.underlying22
  go_enter Try.func103, Try.ntmps103
  go_wp2_with (first | ((with_reducible refine gate_dst (N := 5) rfl ?_); refine Kd.R_lit (Kd.int .i64) _ 2 ?hg (N := 5) ?hd (xs := ([] : List Int)) (inner := []) (ok := fun _ => True) (okp := fun _ => True) ?hr ?hp (fun _ hk => hk) trivial (Below.refl _ _) (Nat.le_refl _) (by simp) ?_; (case hd => rfl); (case hg => rfl); (case hr => first | (go_simp; done) | (go_simp; rfl)); (case hp => exact (Reps.none _ _)); intro v5 w3 ho4 hb hg_ hnew_; clear hg_ hnew_; have n0_ := aa ho4; have n1_ := aa (ay (by repeat (first | (with_reducible first | exact HB.out | apply ah | apply ae | apply ag) | exact HB.out)) hb); clear HB; have HO5 := n0_; have HB := n1_; clear n0_ n1_; clear hb ho4) | ((with_reducible refine gate_builtin (b := .append) (xs := #[.tmp 5, .tmp 6]) rfl ?_); at_builtin; refine Kd.R_append_rows (Kd.int .i64) (w0 := w) w.heap.size rfl (.tmp 5) (.tmp 6) 22 2 (.int .i64 0) 8 rfl Try.underlying22 info2 rfl (by decide) (by omega) v5 ([] : List Int) l0 _ _ _ (fun _ => True) (fun _ => False) rfl rfl ?aO ?aR (fun _ _ h => h) (fun _ h => h.elim) ?aF ?aB ?aS ?aL ?_; (case aR => repeat (first | exact (bl HR0.out HB.out) | (with_reducible refine ak ?_ _) | (with_reducible refine al ?_ _) | (with_reducible refine am ?_))); (case aB => exact (by repeat (first | (with_reducible first | exact HB.out | apply ah | apply ae | apply ag) | exact HB.out))); (case aF => exact (fun _ _ => trivial)); (case aO => exact (by (with_reducible repeat (first | apply ab | apply ac | apply af)); exact HO5.out)); (case aS => exact (ar (by repeat (first | (with_reducible first | exact HB.out | apply ah | apply ae | apply ag) | exact HB.out)))); (case aL => have := HL.out; simp; omega); intro v7 w5 ho hb hg hat; have n0_ := aa (hb); have n1_ := aa (ho); clear HB; clear HO5; have HB := n0_; have HO7 := n1_; clear n0_ n1_; clear ho hb hg hat))
  go_ret
  exact ⟨_, rfl, by (with_reducible repeat (first | apply ab | apply ac | apply af)); exact HO7.out, by repeat (first | (with_reducible first | exact HB.out | apply ah | apply ae | apply ag) | exact HB.out)⟩


/-! ### impl_applyRepairs: function 71 -/
def impl_applyRepairs.l0 : Nat → List Int → List (S64) → Int → Int → Option (List Int × Int)
 | 0, _, _, _, _ => none
 | k + 1, x6, x11, x12, x13 => if x13 < x12 then (if 0 ≤ x13 then (if x13 < (x11.length : Int) then (if 0 ≤ ((rd_T64 x11 x13).f0) then (if ((rd_T64 x11 x13).f0) < (x6.length : Int) then (if (rd x6 ((rd_T64 x11 x13).f0)) = ((rd_T64 x11 x13).f1) then (impl_applyRepairs.l0 k (x6.set (((rd_T64 x11 x13).f0) : Int).toNat ((rd_T64 x11 x13).f2)) x11 x12 (wrap64 (x13 + 1))) else (some (([] : List Int), 9))) else (none)) else (none)) else (none)) else (none)) else (some (x6, 0))
def impl_applyRepairs.f (k : Nat) (l0 : List Int) (l1 : List (S64)) : Option (List Int × Int) := (slices_Clone_int64_int64.f l0).bind fun t163 => (impl_applyRepairs.l0 k t163 l1 (l1.length : Int) 0)
theorem impl_applyRepairs.mono_l : ∀ k, (∀ y0 y1 y2 y3, LeO (impl_applyRepairs.l0 k y0 y1 y2 y3) (impl_applyRepairs.l0 (k + 1) y0 y1 y2 y3))
 | 0 => fun _ _ _ _ r h => by simp [impl_applyRepairs.l0] at h
 | k + 1 => by
  have ih0 := impl_applyRepairs.mono_l k
  ·intro y0 y1 y2 y3
   unfold impl_applyRepairs.l0
   repeat' first
   | (with_reducible exact ih0 _ _ _ _)
   | (with_reducible exact LeO.refl _)
   | (with_reducible exact LeO.none _)
   | (with_reducible refine LeO.ite ?_ ?_)
   | (with_reducible refine LeO.bind ?_ (fun _ => ?_))
   | exact ih0 _ _ _ _
   | exact LeO.none _
   | refine LeO.ite ?_ ?_
   | refine LeO.bind ?_ (fun _ => ?_)
theorem impl_applyRepairs.mono : ∀ a0 a1 k, LeO (impl_applyRepairs.f k a0 a1) (impl_applyRepairs.f (k + 1) a0 a1) := by
 intro a0 a1 k
 have ih0 := impl_applyRepairs.mono_l k
 unfold impl_applyRepairs.f
 repeat' first
   | (with_reducible exact ih0 _ _ _ _)
   | (with_reducible exact LeO.refl _)
   | (with_reducible exact LeO.none _)
   | (with_reducible refine LeO.ite ?_ ?_)
   | (with_reducible refine LeO.bind ?_ (fun _ => ?_))
   | exact ih0 _ _ _ _
   | exact LeO.none _
   | refine LeO.ite ?_ ?_
   | refine LeO.bind ?_ (fun _ => ?_)
set_option maxHeartbeats 8000000 in
set_option maxRecDepth 100000 in
theorem impl_applyRepairs.calls (k : Nat) (A0 : Option Addr) (c0 : Nat) (l0 : List Int) (A1 : Option Addr) (c1 : Nat) (l1 : List (S64)) (r1 : List Int) (r2 : Int) (w : World) (hr0 : Kd.C (Kd.int .i64) w A0 l0.length l0) (hc0 : l0.length ≤ c0) (hr1 : Kd.C k64 w A1 l1.length l1) (hc1 : l1.length ≤ c1) (h : impl_applyRepairs.f k l0 l1 = some (r1, r2)) :
  Calls Try.prog 71 #[.slice A0 l0.length c0, .slice A1 l1.length c1] w fun e w' => ∃ v0_ : Value, e = .returned (.tuple #[v0_, .int .i64 r2]) ∧ Kd.R (Kd.int .i64) 2 w' w.heap.size (fun _ => True) v0_ r1 ∧ Below w.heap.size w w' := by
 have hu64 := Try.underlying64
 have HR0 := aa hr0
 have HC0 := aa hc0
 clear hr0 hc0
 have HR1 := aa hr1
 have HC1 := aa hc1
 clear hr1 hc1
 have HB := aa (Below.refl w.heap.size w)
 have H : ((slices_Clone_int64_int64.f l0).bind fun t163 => (impl_applyRepairs.l0 k t163 l1 (l1.length : Int) 0)) = some (r1, r2) := h
 clear h
 replace H := bm.mp H
 obtain ⟨t163, A30, H⟩ := H
 replace H : (impl_applyRepairs.l0 k t163 l1 (l1.length : Int) 0) = some (r1, r2) := H
 have A3 := aa A30
 clear A30
 have H' := aa H
 clear H
 go_enter Try.func71, Try.ntmps71
 go_wp2_with (first | (go_at_call 103; (with_reducible refine (slices_Clone_int64_int64.calls _ _ l0 t163 _ ?side1 ?side2 A3.out).mono ?_); (case side1 => repeat (first | exact HR0.out | (with_reducible refine ak ?_ _) | (with_reducible refine al ?_ _) | (with_reducible refine am ?_))); (case side2 => exact HC0.out); rintro e w4 ⟨v164, rfl, ho0, hb⟩; have n0_ := aa (bd ho0 (ar (by repeat (first | (with_reducible first | exact HB.out | apply ah | apply ae | apply ag) | exact HB.out)))); have n1_ := aa (ay (by repeat (first | (with_reducible first | exact HB.out | apply ah | apply ae | apply ag) | exact HB.out)) hb); clear HB; have HO165 := n0_; have HB := n1_; clear n0_ n1_; (try clear hb); (try clear hb2); (try clear hk); (try clear hi); (try clear ho0)))
 repeat (go_quiet (first | (go_at_call 103; (with_reducible refine (slices_Clone_int64_int64.calls _ _ l0 t163 _ ?side1 ?side2 A3.out).mono ?_); (case side1 => repeat (first | exact HR0.out | (with_reducible refine ak ?_ _) | (with_reducible refine al ?_ _) | (with_reducible refine am ?_))); (case side2 => exact HC0.out); rintro e w4 ⟨v164, rfl, ho0, hb⟩; have n0_ := aa (bd ho0 (ar (by repeat (first | (with_reducible first | exact HB.out | apply ah | apply ae | apply ag) | exact HB.out)))); have n1_ := aa (ay (by repeat (first | (with_reducible first | exact HB.out | apply ah | apply ae | apply ag) | exact HB.out)) hb); clear HB; have HO165 := n0_; have HB := n1_; clear n0_ n1_; (try clear hb); (try clear hb2); (try clear hk); (try clear hi); (try clear ho0))); try go_wp2)
 go_loopg [13] k (fun kq v13 w' => ∃ (x6_1 : List Int) (x13_1 : Int), v13 = .int .i64 x13_1 ∧ Aside0 (impl_applyRepairs.l0 kq x6_1 l1 (l1.length : Int) x13_1 = some (r1, r2)) ∧ Aside0 (kq ≤ k) ∧ Aside0 (Kd.R (Kd.int .i64) 2 w' w.heap.size (fun _ => True) v164 x6_1) ∧ Aside0 (Below w.heap.size w w'))
 case atStart => exact ⟨(t163), (0), (by first | rfl | (simp; done) | (simp [*]; done)), H', ⟨Nat.le_refl _⟩, ⟨by (with_reducible repeat (first | apply ab | apply ac | apply af)); exact HO165.out⟩, ⟨by repeat (first | (with_reducible first | exact HB.out | apply ah | apply ae | apply ag) | exact HB.out)⟩⟩
 case round =>
  clear H'
  try clear c1
  try clear p2
  obtain ⟨x6_1, x13_1, rfl, HA, HK1, HO_6, HB⟩ := hrel
  cases gk with
  | zero => exact absurd HA.out (by simp [impl_applyRepairs.l0])
  | succ k1 =>
   have H := HA.out
   clear HA
   simp only [impl_applyRepairs.l0] at H
   by_cases c5 : x13_1 < (l1.length : Int)
   ·rw [if_pos c5] at H
    have c5b0 : decide (x13_1 < (l1.length : Int)) = true := decide_eq_true c5
    clear c5
    by_cases c6 : 0 ≤ x13_1
    ·rw [if_pos c6] at H
     have c6b0 : decide (0 ≤ x13_1) = true := decide_eq_true c6
     clear c6
     by_cases c7 : x13_1 < (l1.length : Int)
     ·rw [if_pos c7] at H
      have c7b0 : decide (x13_1 < (l1.length : Int)) = true := decide_eq_true c7
      clear c7
      by_cases c8 : 0 ≤ ((rd_T64 l1 x13_1).f0)
      ·rw [if_pos c8] at H
       have c8b0 : decide (0 ≤ ((rd_T64 l1 x13_1).f0)) = true := decide_eq_true c8
       clear c8
       by_cases c9 : ((rd_T64 l1 x13_1).f0) < (x6_1.length : Int)
       ·rw [if_pos c9] at H
        have c9b0 : decide (((rd_T64 l1 x13_1).f0) < (x6_1.length : Int)) = true := decide_eq_true c9
        clear c9
        by_cases c10 : (rd x6_1 ((rd_T64 l1 x13_1).f0)) = ((rd_T64 l1 x13_1).f1)
        ·rw [if_pos c10] at H
         have c10b0 : ((rd x6_1 ((rd_T64 l1 x13_1).f0)) == ((rd_T64 l1 x13_1).f1)) = true := beq_iff_eq.mpr c10
         have c10b1 : ((rd x6_1 ((rd_T64 l1 x13_1).f0)) != ((rd_T64 l1 x13_1).f1)) = false := bne_eq_false_iff_eq.mpr c10
         clear c10
         obtain ⟨y169, hy169⟩ : ∃ y_ : List Int, y_ = (x6_1.set (((rd_T64 l1 x13_1).f0) : Int).toNat ((rd_T64 l1 x13_1).f2)) := ⟨_, rfl⟩
         replace H : (impl_applyRepairs.l0 k1 y169 l1 (l1.length : Int) (wrap64 (x13_1 + 1))) = some (r1, r2) := by first | (rw [hy169]; with_reducible exact H) | (have H2_ := (Option.bind_some _ _).symm.trans H; rw [hy169]; with_reducible exact H2_) | (have H2_ := (Option.bind_some _ _).symm.trans H; with_reducible exact H2_) | with_reducible exact H | (rw [hy169]; exact H) | exact H
         have Ny169 := aa hy169
         clear hy169
         have H' := aa H
         clear H
         have p166 : 0 ≤ (x13_1 : Int) := of_decide_eq_true (by first | (with_reducible assumption) | assumption)
         have q166 : x13_1 < (l1.length : Int) := of_decide_eq_true (by first | (with_reducible assumption) | assumption)
         obtain ⟨ad166, e166, hx166_0, hx166_1, hx166_2⟩ := at_T64 HR1.out x13_1 p166 q166
         cases e166
         replace hx166_0 := (HB.out.cell (World.block_lt_of_cell? w _ hx166_0)).trans hx166_0
         replace hx166_1 := (HB.out.cell (World.block_lt_of_cell? w _ hx166_1)).trans hx166_1
         replace hx166_2 := (HB.out.cell (World.block_lt_of_cell? w _ hx166_2)).trans hx166_2
         replace p166 := eq_true p166
         replace q166 := eq_true q166
         go_wp2_with (first | ((with_reducible refine gate_dst (N := 8) rfl ?_); refine box_event ?hg (N := 8) ?hd (cs := #[.int .i64 0, .int .i64 0, .int .i64 0]) (t := 64) ?hr ?_; (case hd => rfl); (case hg => rfl); (case hr => first | (go_simp; done) | (go_simp; rfl)); intro gb167 hg w12 hbox hb; have n0_ := aa (aq (by (with_reducible repeat (first | apply ab | apply ac | apply af)); exact HO_6.out) hb); have n1_ := aa (ay (by repeat (first | (with_reducible first | exact HB.out | apply ah | apply ae | apply ag) | exact HB.out)) hb); have n2_ := aa (hbox); have n3_ := aa ((by rw [hg]; exact (ar (by repeat (first | (with_reducible first | exact HB.out | apply ah | apply ae | apply ag) | exact HB.out))) : w.heap.size ≤ gb167)); have n4_ := aa ((by rw [hg]; exact (ar (by repeat (first | (with_reducible first | exact HB.out | apply ah | apply ae | apply ag) | exact HB.out))) : w.heap.size ≤ gb167)); clear HO_6; clear HB; have HO_6 := n0_; have HB := n1_; have BK167 := n2_; have GW167 := n3_; have GE167 := n4_; clear n0_ n1_ n2_ n3_ n4_; clear hb hbox hg; have hcz13_0 : w12.cell? ⟨gb167, 0, none⟩ = some (.int .i64 0) := (be BK167.out 0).trans rfl; have hcz13_1 : w12.cell? ⟨gb167, 1, none⟩ = some (.int .i64 0) := (be BK167.out 1).trans rfl; have hcz13_2 : w12.cell? ⟨gb167, 2, none⟩ = some (.int .i64 0) := (be BK167.out 2).trans rfl; have hfz13_0 := bb BK167.out 0; have hfz13_1 := bb BK167.out 1; have hfz13_2 := bb BK167.out 2) | ((with_reducible refine gate_store (t := 64) (p := 8) rfl ?_); (try (rw [drewN_self w12]; generalize hq_ : World.drewN w12 _ = w12; have n0_ := aa (Kd.R_at hq_ HO_6.out); have n1_ := aa (blk_at hq_ BK167.out); have n2_ := aa (below_at hq_ HB.out); clear hq_ HO_6 BK167 HB; have HO_6 := n0_; have BK167 := n1_; have HB := n2_; clear n0_ n1_ n2_)); refine store_event (t := 64) (p := 8) (v := ?vo_w14) (w1 := (((w12.setCell ⟨gb167, 0, none⟩ (.int .i64 ((rd_T64 l1 x13_1).f0))).setCell ⟨gb167, 1, none⟩ (.int .i64 ((rd_T64 l1 x13_1).f1))).setCell ⟨gb167, 2, none⟩ (.int .i64 ((rd_T64 l1 x13_1).f2)))) ?hg ?ho ?hn ?hr ?_; (case ho => rfl); (case hg => rfl); (case hn => rfl); (case hr => first | (go_simp; done) | (go_simp; rfl)); intro w14 hw; have n0_ : Aside0 (Kd.R (Kd.int .i64) 2 w14 w.heap.size (fun _ => True) v164 x6_1) := ⟨(by rw [hw]; exact (by (with_reducible repeat (first | apply ab | apply ac | apply af)); exact an (Kd.R_far (p := ⟨gb167, 2, none⟩) (Kd.R_far (p := ⟨gb167, 1, none⟩) (Kd.R_far (p := ⟨gb167, 0, none⟩) (Kd.R_types HO_6.out BK167.out (by decide)) (fun _ hk => hk.2) (.int .i64 ((rd_T64 l1 x13_1).f0))) (fun _ hk => hk.2) (.int .i64 ((rd_T64 l1 x13_1).f1))) (fun _ hk => hk.2) (.int .i64 ((rd_T64 l1 x13_1).f2))) (fun _ hk => trivial)))⟩; have n1_ : Aside0 (w14.heap[gb167]? = some (.cells #[.int .i64 ((rd_T64 l1 x13_1).f0), .int .i64 ((rd_T64 l1 x13_1).f1), .int .i64 ((rd_T64 l1 x13_1).f2)] 64 (0, 0))) := ⟨(by rw [hw]; exact (by (with_reducible repeat (first | refine bh ?_ _ | refine bk ?_ | refine bi ?_ _)); refine blk_put (cs := #[.int .i64 ((rd_T64 l1 x13_1).f0), .int .i64 ((rd_T64 l1 x13_1).f1), .int .i64 0]) ?_ 2 _ rfl; (with_reducible repeat (first | refine bh ?_ _ | refine bk ?_ | refine bi ?_ _)); refine blk_put (cs := #[.int .i64 ((rd_T64 l1 x13_1).f0), .int .i64 0, .int .i64 0]) ?_ 1 _ rfl; (with_reducible repeat (first | refine bh ?_ _ | refine bk ?_ | refine bi ?_ _)); refine blk_put (cs := #[.int .i64 0, .int .i64 0, .int .i64 0]) ?_ 0 _ rfl; (with_reducible repeat (first | refine bh ?_ _ | refine bk ?_ | refine bi ?_ _)); exact BK167.out))⟩; have n2_ : Aside0 (Below w.heap.size w w14) := ⟨(by rw [hw]; exact (by repeat (first | (with_reducible first | exact HB.out | apply ah | apply ae | apply ag | refine ao ?_ GE167.out) | exact HB.out)))⟩; clear hw; clear HO_6; clear BK167; clear HB; have HO_6 := n0_; have BK167 := n1_; have HB := n2_; clear n0_ n1_ n2_; have hcz15_0 : w14.cell? ⟨gb167, 0, none⟩ = some (.int .i64 ((rd_T64 l1 x13_1).f0)) := (be BK167.out 0).trans rfl; have hcz15_1 : w14.cell? ⟨gb167, 1, none⟩ = some (.int .i64 ((rd_T64 l1 x13_1).f1)) := (be BK167.out 1).trans rfl; have hcz15_2 : w14.cell? ⟨gb167, 2, none⟩ = some (.int .i64 ((rd_T64 l1 x13_1).f2)) := (be BK167.out 2).trans rfl; have hfz15_0 := bb BK167.out 0; have hfz15_1 := bb BK167.out 1; have hfz15_2 := bb BK167.out 2; obtain ⟨Ao16, co16, eo16⟩ := ap HO_6.out; subst eo16; have p168 : 0 ≤ (((rd_T64 l1 x13_1).f0) : Int) := of_decide_eq_true (by first | (with_reducible assumption) | assumption); have q168 : ((rd_T64 l1 x13_1).f0) < (x6_1.length : Int) := of_decide_eq_true (by first | (with_reducible assumption) | assumption); obtain ⟨ad168, e168, hx168_0⟩ := bj (ai HO_6.out).2.2 ((rd_T64 l1 x13_1).f0) p168 q168; cases e168; replace p168 := eq_true p168; replace q168 := eq_true q168; have p11 : 0 ≤ (((rd_T64 l1 x13_1).f0) : Int) := of_decide_eq_true (by first | (with_reducible assumption) | assumption); have q11 : (((rd_T64 l1 x13_1).f0) : Int) < ((x6_1.length : Int) : Int) := of_decide_eq_true (by first | (with_reducible assumption) | assumption); obtain ⟨go11, co11, eo11, gb11, gl11, cl11, HG11⟩ := Kd.R_form HO_6.out (by omega); (first | cases eo11 | (injection eo11 with ea_ en_ ec_; (first | subst ea_ | (injection ea_ with ea_; subst ea_)); subst ec_; clear en_)); have GB11 := aa gb11; have GG11 := aa HG11; clear gb11 gl11 HG11; (first | simp only [add_plain] at hx168_0 | skip); obtain ⟨hx11_0, hf11_0⟩ := Kd.R_celln 0 HO_6.out (((rd_T64 l1 x13_1).f0) : Int) p11 q11; replace p11 := eq_true p11; replace q11 := eq_true q11; obtain ⟨hy17_, hz17_⟩ := Kd.R_celln 0 HO_6.out (((rd_T64 l1 x13_1).f0) : Int) (of_decide_eq_true (by first | (with_reducible assumption) | assumption)) (of_decide_eq_true (by first | (with_reducible assumption) | assumption)); have HP17 := Kd.R_putg HO_6.out (((rd_T64 l1 x13_1).f0) : Int) ((rd_T64 l1 x13_1).f2)) | ((with_reducible refine gate_store (t := 2) (p := 30) rfl ?_); (try (rw [drewN_self w14]; generalize hq_ : World.drewN w14 _ = w14; have n0_ := aa (Kd.R_at hq_ HO_6.out); have n1_ := aa (blk_at hq_ BK167.out); have n2_ := aa (below_at hq_ HB.out); clear hq_ HO_6 BK167 HB; have HO_6 := n0_; have BK167 := n1_; have HB := n2_; clear n0_ n1_ n2_; (try (obtain ⟨hy17_, hz17_⟩ := Kd.R_celln 0 HO_6.out (((rd_T64 l1 x13_1).f0) : Int) (of_decide_eq_true (by first | (with_reducible assumption) | assumption)) (of_decide_eq_true (by first | (with_reducible assumption) | assumption)))); (try (have HP17 := Kd.R_putg HO_6.out (((rd_T64 l1 x13_1).f0) : Int) ((rd_T64 l1 x13_1).f2))))); refine store_event (t := 2) (p := 30) (v := ?vo_w18) (w1 := (w14.setCell ⟨go11, (((rd_T64 l1 x13_1).f0) : Int).toNat, none⟩ (.int .i64 ((rd_T64 l1 x13_1).f2)))) ?hg ?ho ?hn ?hr ?_; (case ho => rfl); (case hg => rfl); (case hn => rfl); (case hr => first | (go_simp; done) | (go_simp; rfl)); intro w18 hw; have hg : w14.grownBy w18 (some go11) := (by rw [hw]; exact HP17.2); have hp_ : Kd.R (Kd.int .i64) 2 w18 w.heap.size (fun _ => True) (.slice (some ⟨go11, 0, none⟩) x6_1.length co16) y169 := (by rw [hw, Ny169.out]; exact HP17.1); clear HP17; have n0_ := aa (hp_); have n1_ := aa (blk_grown (g := gb167) (o := .cells #[.int .i64 ((rd_T64 l1 x13_1).f0), .int .i64 ((rd_T64 l1 x13_1).f1), .int .i64 ((rd_T64 l1 x13_1).f2)] 64 (0, 0)) (by (with_reducible repeat (first | refine bh ?_ _ | refine bk ?_ | refine bi ?_ _)); exact BK167.out) hg (Kd.R_ne HO_6.out BK167.out (by decide))); have n2_ := aa ((by rw [hw]; exact ao (HB.out) GB11.out : Below w.heap.size w w18)); clear HO_6; clear BK167; clear HB; have HO_6 := n0_; have BK167 := n1_; have HB := n2_; clear n0_ n1_ n2_; clear hg hw hp_))
         repeat (go_quiet (fail); try go_wp2_with (first | ((with_reducible refine gate_dst (N := 8) rfl ?_); refine box_event ?hg (N := 8) ?hd (cs := #[.int .i64 0, .int .i64 0, .int .i64 0]) (t := 64) ?hr ?_; (case hd => rfl); (case hg => rfl); (case hr => first | (go_simp; done) | (go_simp; rfl)); intro gb167 hg w12 hbox hb; have n0_ := aa (aq (by (with_reducible repeat (first | apply ab | apply ac | apply af)); exact HO_6.out) hb); have n1_ := aa (ay (by repeat (first | (with_reducible first | exact HB.out | apply ah | apply ae | apply ag) | exact HB.out)) hb); have n2_ := aa (hbox); have n3_ := aa ((by rw [hg]; exact (ar (by repeat (first | (with_reducible first | exact HB.out | apply ah | apply ae | apply ag) | exact HB.out))) : w.heap.size ≤ gb167)); have n4_ := aa ((by rw [hg]; exact (ar (by repeat (first | (with_reducible first | exact HB.out | apply ah | apply ae | apply ag) | exact HB.out))) : w.heap.size ≤ gb167)); clear HO_6; clear HB; have HO_6 := n0_; have HB := n1_; have BK167 := n2_; have GW167 := n3_; have GE167 := n4_; clear n0_ n1_ n2_ n3_ n4_; clear hb hbox hg; have hcz13_0 : w12.cell? ⟨gb167, 0, none⟩ = some (.int .i64 0) := (be BK167.out 0).trans rfl; have hcz13_1 : w12.cell? ⟨gb167, 1, none⟩ = some (.int .i64 0) := (be BK167.out 1).trans rfl; have hcz13_2 : w12.cell? ⟨gb167, 2, none⟩ = some (.int .i64 0) := (be BK167.out 2).trans rfl; have hfz13_0 := bb BK167.out 0; have hfz13_1 := bb BK167.out 1; have hfz13_2 := bb BK167.out 2) | ((with_reducible refine gate_store (t := 64) (p := 8) rfl ?_); (try (rw [drewN_self w12]; generalize hq_ : World.drewN w12 _ = w12; have n0_ := aa (Kd.R_at hq_ HO_6.out); have n1_ := aa (blk_at hq_ BK167.out); have n2_ := aa (below_at hq_ HB.out); clear hq_ HO_6 BK167 HB; have HO_6 := n0_; have BK167 := n1_; have HB := n2_; clear n0_ n1_ n2_)); refine store_event (t := 64) (p := 8) (v := ?vo_w14) (w1 := (((w12.setCell ⟨gb167, 0, none⟩ (.int .i64 ((rd_T64 l1 x13_1).f0))).setCell ⟨gb167, 1, none⟩ (.int .i64 ((rd_T64 l1 x13_1).f1))).setCell ⟨gb167, 2, none⟩ (.int .i64 ((rd_T64 l1 x13_1).f2)))) ?hg ?ho ?hn ?hr ?_; (case ho => rfl); (case hg => rfl); (case hn => rfl); (case hr => first | (go_simp; done) | (go_simp; rfl)); intro w14 hw; have n0_ : Aside0 (Kd.R (Kd.int .i64) 2 w14 w.heap.size (fun _ => True) v164 x6_1) := ⟨(by rw [hw]; exact (by (with_reducible repeat (first | apply ab | apply ac | apply af)); exact an (Kd.R_far (p := ⟨gb167, 2, none⟩) (Kd.R_far (p := ⟨gb167, 1, none⟩) (Kd.R_far (p := ⟨gb167, 0, none⟩) (Kd.R_types HO_6.out BK167.out (by decide)) (fun _ hk => hk.2) (.int .i64 ((rd_T64 l1 x13_1).f0))) (fun _ hk => hk.2) (.int .i64 ((rd_T64 l1 x13_1).f1))) (fun _ hk => hk.2) (.int .i64 ((rd_T64 l1 x13_1).f2))) (fun _ hk => trivial)))⟩; have n1_ : Aside0 (w14.heap[gb167]? = some (.cells #[.int .i64 ((rd_T64 l1 x13_1).f0), .int .i64 ((rd_T64 l1 x13_1).f1), .int .i64 ((rd_T64 l1 x13_1).f2)] 64 (0, 0))) := ⟨(by rw [hw]; exact (by (with_reducible repeat (first | refine bh ?_ _ | refine bk ?_ | refine bi ?_ _)); refine blk_put (cs := #[.int .i64 ((rd_T64 l1 x13_1).f0), .int .i64 ((rd_T64 l1 x13_1).f1), .int .i64 0]) ?_ 2 _ rfl; (with_reducible repeat (first | refine bh ?_ _ | refine bk ?_ | refine bi ?_ _)); refine blk_put (cs := #[.int .i64 ((rd_T64 l1 x13_1).f0), .int .i64 0, .int .i64 0]) ?_ 1 _ rfl; (with_reducible repeat (first | refine bh ?_ _ | refine bk ?_ | refine bi ?_ _)); refine blk_put (cs := #[.int .i64 0, .int .i64 0, .int .i64 0]) ?_ 0 _ rfl; (with_reducible repeat (first | refine bh ?_ _ | refine bk ?_ | refine bi ?_ _)); exact BK167.out))⟩; have n2_ : Aside0 (Below w.heap.size w w14) := ⟨(by rw [hw]; exact (by repeat (first | (with_reducible first | exact HB.out | apply ah | apply ae | apply ag | refine ao ?_ GE167.out) | exact HB.out)))⟩; clear hw; clear HO_6; clear BK167; clear HB; have HO_6 := n0_; have BK167 := n1_; have HB := n2_; clear n0_ n1_ n2_; have hcz15_0 : w14.cell? ⟨gb167, 0, none⟩ = some (.int .i64 ((rd_T64 l1 x13_1).f0)) := (be BK167.out 0).trans rfl; have hcz15_1 : w14.cell? ⟨gb167, 1, none⟩ = some (.int .i64 ((rd_T64 l1 x13_1).f1)) := (be BK167.out 1).trans rfl; have hcz15_2 : w14.cell? ⟨gb167, 2, none⟩ = some (.int .i64 ((rd_T64 l1 x13_1).f2)) := (be BK167.out 2).trans rfl; have hfz15_0 := bb BK167.out 0; have hfz15_1 := bb BK167.out 1; have hfz15_2 := bb BK167.out 2; obtain ⟨Ao16, co16, eo16⟩ := ap HO_6.out; subst eo16; have p168 : 0 ≤ (((rd_T64 l1 x13_1).f0) : Int) := of_decide_eq_true (by first | (with_reducible assumption) | assumption); have q168 : ((rd_T64 l1 x13_1).f0) < (x6_1.length : Int) := of_decide_eq_true (by first | (with_reducible assumption) | assumption); obtain ⟨ad168, e168, hx168_0⟩ := bj (ai HO_6.out).2.2 ((rd_T64 l1 x13_1).f0) p168 q168; cases e168; replace p168 := eq_true p168; replace q168 := eq_true q168; have p11 : 0 ≤ (((rd_T64 l1 x13_1).f0) : Int) := of_decide_eq_true (by first | (with_reducible assumption) | assumption); have q11 : (((rd_T64 l1 x13_1).f0) : Int) < ((x6_1.length : Int) : Int) := of_decide_eq_true (by first | (with_reducible assumption) | assumption); obtain ⟨go11, co11, eo11, gb11, gl11, cl11, HG11⟩ := Kd.R_form HO_6.out (by omega); (first | cases eo11 | (injection eo11 with ea_ en_ ec_; (first | subst ea_ | (injection ea_ with ea_; subst ea_)); subst ec_; clear en_)); have GB11 := aa gb11; have GG11 := aa HG11; clear gb11 gl11 HG11; (first | simp only [add_plain] at hx168_0 | skip); obtain ⟨hx11_0, hf11_0⟩ := Kd.R_celln 0 HO_6.out (((rd_T64 l1 x13_1).f0) : Int) p11 q11; replace p11 := eq_true p11; replace q11 := eq_true q11; obtain ⟨hy17_, hz17_⟩ := Kd.R_celln 0 HO_6.out (((rd_T64 l1 x13_1).f0) : Int) (of_decide_eq_true (by first | (with_reducible assumption) | assumption)) (of_decide_eq_true (by first | (with_reducible assumption) | assumption)); have HP17 := Kd.R_putg HO_6.out (((rd_T64 l1 x13_1).f0) : Int) ((rd_T64 l1 x13_1).f2)) | ((with_reducible refine gate_store (t := 2) (p := 30) rfl ?_); (try (rw [drewN_self w14]; generalize hq_ : World.drewN w14 _ = w14; have n0_ := aa (Kd.R_at hq_ HO_6.out); have n1_ := aa (blk_at hq_ BK167.out); have n2_ := aa (below_at hq_ HB.out); clear hq_ HO_6 BK167 HB; have HO_6 := n0_; have BK167 := n1_; have HB := n2_; clear n0_ n1_ n2_; (try (obtain ⟨hy17_, hz17_⟩ := Kd.R_celln 0 HO_6.out (((rd_T64 l1 x13_1).f0) : Int) (of_decide_eq_true (by first | (with_reducible assumption) | assumption)) (of_decide_eq_true (by first | (with_reducible assumption) | assumption)))); (try (have HP17 := Kd.R_putg HO_6.out (((rd_T64 l1 x13_1).f0) : Int) ((rd_T64 l1 x13_1).f2))))); refine store_event (t := 2) (p := 30) (v := ?vo_w18) (w1 := (w14.setCell ⟨go11, (((rd_T64 l1 x13_1).f0) : Int).toNat, none⟩ (.int .i64 ((rd_T64 l1 x13_1).f2)))) ?hg ?ho ?hn ?hr ?_; (case ho => rfl); (case hg => rfl); (case hn => rfl); (case hr => first | (go_simp; done) | (go_simp; rfl)); intro w18 hw; have hg : w14.grownBy w18 (some go11) := (by rw [hw]; exact HP17.2); have hp_ : Kd.R (Kd.int .i64) 2 w18 w.heap.size (fun _ => True) (.slice (some ⟨go11, 0, none⟩) x6_1.length co16) y169 := (by rw [hw, Ny169.out]; exact HP17.1); clear HP17; have n0_ := aa (hp_); have n1_ := aa (blk_grown (g := gb167) (o := .cells #[.int .i64 ((rd_T64 l1 x13_1).f0), .int .i64 ((rd_T64 l1 x13_1).f1), .int .i64 ((rd_T64 l1 x13_1).f2)] 64 (0, 0)) (by (with_reducible repeat (first | refine bh ?_ _ | refine bk ?_ | refine bi ?_ _)); exact BK167.out) hg (Kd.R_ne HO_6.out BK167.out (by decide))); have n2_ := aa ((by rw [hw]; exact ao (HB.out) GB11.out : Below w.heap.size w w18)); clear HO_6; clear BK167; clear HB; have HO_6 := n0_; have BK167 := n1_; have HB := n2_; clear n0_ n1_ n2_; clear hg hw hp_)))
         go_roundg k1
         case measure => have := HK1.out; omega
         case rel => exact ⟨(y169), (wrap64 (x13_1 + 1)), (by first | rfl | (simp; done) | (simp [*]; done)), H', ⟨by have := HK1.out; omega⟩, ⟨by (with_reducible repeat (first | apply ab | apply ac | apply af)); exact HO_6.out⟩, ⟨by repeat (first | (with_reducible first | exact HB.out | apply ah | apply ae | apply ag | refine ao ?_ GE167.out) | exact HB.out)⟩⟩
        ·rw [if_neg c10] at H
         have c10b0 : ((rd x6_1 ((rd_T64 l1 x13_1).f0)) == ((rd_T64 l1 x13_1).f1)) = false := beq_eq_false_iff_ne.mpr c10
         have c10b1 : ((rd x6_1 ((rd_T64 l1 x13_1).f0)) != ((rd_T64 l1 x13_1).f1)) = true := bne_iff_ne.mpr c10
         simp only [Option.some.injEq, Prod.mk.injEq] at H
         obtain ⟨rfl, rfl⟩ := H
         have p166 : 0 ≤ (x13_1 : Int) := of_decide_eq_true (by first | (with_reducible assumption) | assumption)
         have q166 : x13_1 < (l1.length : Int) := of_decide_eq_true (by first | (with_reducible assumption) | assumption)
         obtain ⟨ad166, e166, hx166_0, hx166_1, hx166_2⟩ := at_T64 HR1.out x13_1 p166 q166
         cases e166
         replace hx166_0 := (HB.out.cell (World.block_lt_of_cell? w _ hx166_0)).trans hx166_0
         replace hx166_1 := (HB.out.cell (World.block_lt_of_cell? w _ hx166_1)).trans hx166_1
         replace hx166_2 := (HB.out.cell (World.block_lt_of_cell? w _ hx166_2)).trans hx166_2
         replace p166 := eq_true p166
         replace q166 := eq_true q166
         go_wp2_with (first | ((with_reducible refine gate_dst (N := 8) rfl ?_); refine box_event ?hg (N := 8) ?hd (cs := #[.int .i64 0, .int .i64 0, .int .i64 0]) (t := 64) ?hr ?_; (case hd => rfl); (case hg => rfl); (case hr => first | (go_simp; done) | (go_simp; rfl)); intro gb167 hg w19 hbox hb; have n0_ := aa (aq (by (with_reducible repeat (first | apply ab | apply ac | apply af)); exact HO_6.out) hb); have n1_ := aa (ay (by repeat (first | (with_reducible first | exact HB.out | apply ah | apply ae | apply ag) | exact HB.out)) hb); have n2_ := aa (hbox); have n3_ := aa ((by rw [hg]; exact (ar (by repeat (first | (with_reducible first | exact HB.out | apply ah | apply ae | apply ag) | exact HB.out))) : w.heap.size ≤ gb167)); have n4_ := aa ((by rw [hg]; exact (ar (by repeat (first | (with_reducible first | exact HB.out | apply ah | apply ae | apply ag) | exact HB.out))) : w.heap.size ≤ gb167)); clear HO_6; clear HB; have HO_6 := n0_; have HB := n1_; have BK167 := n2_; have GW167 := n3_; have GE167 := n4_; clear n0_ n1_ n2_ n3_ n4_; clear hb hbox hg; have hcz20_0 : w19.cell? ⟨gb167, 0, none⟩ = some (.int .i64 0) := (be BK167.out 0).trans rfl; have hcz20_1 : w19.cell? ⟨gb167, 1, none⟩ = some (.int .i64 0) := (be BK167.out 1).trans rfl; have hcz20_2 : w19.cell? ⟨gb167, 2, none⟩ = some (.int .i64 0) := (be BK167.out 2).trans rfl; have hfz20_0 := bb BK167.out 0; have hfz20_1 := bb BK167.out 1; have hfz20_2 := bb BK167.out 2; obtain ⟨Ao21, co21, eo21⟩ := ap HO_6.out; subst eo21; have p168 : 0 ≤ (((rd_T64 l1 x13_1).f0) : Int) := of_decide_eq_true (by first | (with_reducible assumption) | assumption); have q168 : ((rd_T64 l1 x13_1).f0) < (x6_1.length : Int) := of_decide_eq_true (by first | (with_reducible assumption) | assumption); obtain ⟨ad168, e168, hx168_0⟩ := bj (ai HO_6.out).2.2 ((rd_T64 l1 x13_1).f0) p168 q168; cases e168; have hn168_0 : ad168.block ≠ gb167 := Kd.own_blk (Kd.R_ne HO_6.out BK167.out (by decide)); have hn168_1 : ad168.block ≠ gb167 := Kd.own_blk (Kd.R_ne HO_6.out BK167.out (by decide)); have hn168_2 : ad168.block ≠ gb167 := Kd.own_blk (Kd.R_ne HO_6.out BK167.out (by decide)); replace hx168_0 := (cell_far (p := ⟨gb167, 0, none⟩) (by first | (rw [bg]; exact hn168_0) | (show (Addr.add _ _).block ≠ _; rw [bg]; exact hn168_0) | exact hn168_0) (.int .i64 ((rd_T64 l1 x13_1).f0))).trans hx168_0; replace hx168_0 := (cell_far (p := ⟨gb167, 1, none⟩) (by first | (rw [bg]; exact hn168_1) | (show (Addr.add _ _).block ≠ _; rw [bg]; exact hn168_1) | exact hn168_1) (.int .i64 ((rd_T64 l1 x13_1).f1))).trans hx168_0; replace hx168_0 := (cell_far (p := ⟨gb167, 2, none⟩) (by first | (rw [bg]; exact hn168_2) | (show (Addr.add _ _).block ≠ _; rw [bg]; exact hn168_2) | exact hn168_2) (.int .i64 ((rd_T64 l1 x13_1).f2))).trans hx168_0; (try have hy168_0 := fun (n_ : Nat) => (show (((((w19.drewN n_).setCell ⟨gb167, 0, none⟩ (.int .i64 ((rd_T64 l1 x13_1).f0))).setCell ⟨gb167, 1, none⟩ (.int .i64 ((rd_T64 l1 x13_1).f1))).setCell ⟨gb167, 2, none⟩ (.int .i64 ((rd_T64 l1 x13_1).f2)))).cell? _ = some _ from hx168_0)); clear hn168_0; clear hn168_1; clear hn168_2; replace p168 := eq_true p168; replace q168 := eq_true q168))
         repeat (go_quiet (fail); try go_wp2_with (first | ((with_reducible refine gate_dst (N := 8) rfl ?_); refine box_event ?hg (N := 8) ?hd (cs := #[.int .i64 0, .int .i64 0, .int .i64 0]) (t := 64) ?hr ?_; (case hd => rfl); (case hg => rfl); (case hr => first | (go_simp; done) | (go_simp; rfl)); intro gb167 hg w19 hbox hb; have n0_ := aa (aq (by (with_reducible repeat (first | apply ab | apply ac | apply af)); exact HO_6.out) hb); have n1_ := aa (ay (by repeat (first | (with_reducible first | exact HB.out | apply ah | apply ae | apply ag) | exact HB.out)) hb); have n2_ := aa (hbox); have n3_ := aa ((by rw [hg]; exact (ar (by repeat (first | (with_reducible first | exact HB.out | apply ah | apply ae | apply ag) | exact HB.out))) : w.heap.size ≤ gb167)); have n4_ := aa ((by rw [hg]; exact (ar (by repeat (first | (with_reducible first | exact HB.out | apply ah | apply ae | apply ag) | exact HB.out))) : w.heap.size ≤ gb167)); clear HO_6; clear HB; have HO_6 := n0_; have HB := n1_; have BK167 := n2_; have GW167 := n3_; have GE167 := n4_; clear n0_ n1_ n2_ n3_ n4_; clear hb hbox hg; have hcz20_0 : w19.cell? ⟨gb167, 0, none⟩ = some (.int .i64 0) := (be BK167.out 0).trans rfl; have hcz20_1 : w19.cell? ⟨gb167, 1, none⟩ = some (.int .i64 0) := (be BK167.out 1).trans rfl; have hcz20_2 : w19.cell? ⟨gb167, 2, none⟩ = some (.int .i64 0) := (be BK167.out 2).trans rfl; have hfz20_0 := bb BK167.out 0; have hfz20_1 := bb BK167.out 1; have hfz20_2 := bb BK167.out 2; obtain ⟨Ao21, co21, eo21⟩ := ap HO_6.out; subst eo21; have p168 : 0 ≤ (((rd_T64 l1 x13_1).f0) : Int) := of_decide_eq_true (by first | (with_reducible assumption) | assumption); have q168 : ((rd_T64 l1 x13_1).f0) < (x6_1.length : Int) := of_decide_eq_true (by first | (with_reducible assumption) | assumption); obtain ⟨ad168, e168, hx168_0⟩ := bj (ai HO_6.out).2.2 ((rd_T64 l1 x13_1).f0) p168 q168; cases e168; have hn168_0 : ad168.block ≠ gb167 := Kd.own_blk (Kd.R_ne HO_6.out BK167.out (by decide)); have hn168_1 : ad168.block ≠ gb167 := Kd.own_blk (Kd.R_ne HO_6.out BK167.out (by decide)); have hn168_2 : ad168.block ≠ gb167 := Kd.own_blk (Kd.R_ne HO_6.out BK167.out (by decide)); replace hx168_0 := (cell_far (p := ⟨gb167, 0, none⟩) (by first | (rw [bg]; exact hn168_0) | (show (Addr.add _ _).block ≠ _; rw [bg]; exact hn168_0) | exact hn168_0) (.int .i64 ((rd_T64 l1 x13_1).f0))).trans hx168_0; replace hx168_0 := (cell_far (p := ⟨gb167, 1, none⟩) (by first | (rw [bg]; exact hn168_1) | (show (Addr.add _ _).block ≠ _; rw [bg]; exact hn168_1) | exact hn168_1) (.int .i64 ((rd_T64 l1 x13_1).f1))).trans hx168_0; replace hx168_0 := (cell_far (p := ⟨gb167, 2, none⟩) (by first | (rw [bg]; exact hn168_2) | (show (Addr.add _ _).block ≠ _; rw [bg]; exact hn168_2) | exact hn168_2) (.int .i64 ((rd_T64 l1 x13_1).f2))).trans hx168_0; (try have hy168_0 := fun (n_ : Nat) => (show (((((w19.drewN n_).setCell ⟨gb167, 0, none⟩ (.int .i64 ((rd_T64 l1 x13_1).f0))).setCell ⟨gb167, 1, none⟩ (.int .i64 ((rd_T64 l1 x13_1).f1))).setCell ⟨gb167, 2, none⟩ (.int .i64 ((rd_T64 l1 x13_1).f2)))).cell? _ = some _ from hx168_0)); clear hn168_0; clear hn168_1; clear hn168_2; replace p168 := eq_true p168; replace q168 := eq_true q168)))
         go_ret2
         exact ⟨_, by first | rfl | (simp [errW_none, errW_some] <;> rfl) | (simp [*, errW_none, errW_some] <;> rfl), by first | exact Kd.R_nil _ _ _ _ _ | exact Kd.N_nil _ _ _ _ _ | exact Kd.V_nil _ _ _ _ _ | exact Kd.Q_nil _ _ _ _ _ | exact Kd.S_nil _ _ _ _ _, by repeat (first | (with_reducible first | exact HB.out | apply ah | apply ae | apply ag | refine ao ?_ GE167.out) | exact HB.out)⟩
       ·rw [if_neg c9] at H
        exact absurd H (by simp)
      ·rw [if_neg c8] at H
       exact absurd H (by simp)
     ·rw [if_neg c7] at H
      exact absurd H (by simp)
    ·rw [if_neg c6] at H
     exact absurd H (by simp)
   ·rw [if_neg c5] at H
    have c5b0 : decide (x13_1 < (l1.length : Int)) = false := decide_eq_false c5
    clear c5
    simp only [Option.some.injEq, Prod.mk.injEq] at H
    obtain ⟨rfl, rfl⟩ := H
    go_wp2
    repeat (go_quiet (fail); try go_wp2)
    go_ret2
    exact ⟨_, by first | rfl | (simp [errW_none, errW_some] <;> rfl) | (simp [*, errW_none, errW_some] <;> rfl), by (with_reducible repeat (first | apply ab | apply ac | apply af)); exact HO_6.out, by repeat (first | (with_reducible first | exact HB.out | apply ah | apply ae | apply ag) | exact HB.out)⟩

/-! ### impl_ApplyRepairs: function 35 -/
def impl_ApplyRepairs.f (k : Nat) (l0 : List Int) (l1 : List (S64)) : Option (List Int × Int) := (impl_stepsCode.f l0 l1).bind fun t170 => (if t170 = 0 then ((impl_applyRepairs.f k l0 l1).bind fun bt171 => (some (bt171.1, bt171.2))) else (some (([] : List Int), t170)))
theorem impl_ApplyRepairs.mono : ∀ a0 a1 k, LeO (impl_ApplyRepairs.f k a0 a1) (impl_ApplyRepairs.f (k + 1) a0 a1) := by
 intro a0 a1 k
 unfold impl_ApplyRepairs.f
 repeat' first
   | (with_reducible exact impl_applyRepairs.mono _ _ _)
   | (with_reducible exact LeO.refl _)
   | (with_reducible exact LeO.none _)
   | (with_reducible refine LeO.ite ?_ ?_)
   | (with_reducible refine LeO.bind ?_ (fun _ => ?_))
   | exact impl_applyRepairs.mono _ _ _
   | exact LeO.none _
   | refine LeO.ite ?_ ?_
   | refine LeO.bind ?_ (fun _ => ?_)
set_option maxHeartbeats 8000000 in
set_option maxRecDepth 100000 in
theorem impl_ApplyRepairs.calls (k : Nat) (A0 : Option Addr) (c0 : Nat) (l0 : List Int) (A1 : Option Addr) (c1 : Nat) (l1 : List (S64)) (r1 : List Int) (r2 : Int) (w : World) (hr0 : Kd.C (Kd.int .i64) w A0 l0.length l0) (hc0 : l0.length ≤ c0) (hr1 : Kd.C k64 w A1 l1.length l1) (hc1 : l1.length ≤ c1) (h : impl_ApplyRepairs.f k l0 l1 = some (r1, r2)) :
  Calls Try.prog 35 #[.slice A0 l0.length c0, .slice A1 l1.length c1] w fun e w' => ∃ v0_ : Value, e = .returned (.tuple #[v0_, .int .i64 r2]) ∧ Kd.R (Kd.int .i64) 2 w' w.heap.size (fun _ => True) v0_ r1 ∧ Below w.heap.size w w' := by
 have HR0 := aa hr0
 have HC0 := aa hc0
 clear hr0 hc0
 have HR1 := aa hr1
 have HC1 := aa hc1
 clear hr1 hc1
 have HB := aa (Below.refl w.heap.size w)
 have H : ((impl_stepsCode.f l0 l1).bind fun t170 => (if t170 = 0 then ((impl_applyRepairs.f k l0 l1).bind fun bt171 => (some (bt171.1, bt171.2))) else (some (([] : List Int), t170)))) = some (r1, r2) := h
 clear h
 replace H := bm.mp H
 obtain ⟨t170, A30, H⟩ := H
 (try dsimp only at H)
 have A3 := aa A30
 clear A30
 by_cases c4 : t170 = 0
 ·rw [if_pos c4] at H
  have c4b0 : (t170 == 0) = true := beq_iff_eq.mpr c4
  have c4b1 : (t170 != 0) = false := bne_eq_false_iff_eq.mpr c4
  clear c4
  replace H := bm.mp H
  obtain ⟨⟨t171, t172⟩, A50, H⟩ := H
  replace H : (some (t171, t172)) = some (r1, r2) := H
  have A5 := aa A50
  clear A50
  simp only [Option.some.injEq, Prod.mk.injEq] at H
  obtain ⟨rfl, rfl⟩ := H
  go_enter Try.func35, Try.ntmps35
  go_wp2_with (first | ((with_reducible refine gate_callee (f := 70) rfl ?_); refine goesL_ (some 9) rfl rfl Try.func70 (by kernel_rfl) rfl #[.slice A0 l0.length c0, .slice A1 l1.length c1] rfl (by (try simp only [List.map_toArray, List.map_cons, List.map_nil]); first | done | rfl | (simp only [List.length_drop, List.length_take]; rfl)) ?_; (with_reducible refine (impl_stepsCode.calls _ _ l0 _ _ l1 t170 _ ?side1 ?side2 ?side3 ?side4 A3.out).mono ?_); (case side1 => repeat (first | exact HR0.out | (with_reducible refine ak ?_ _) | (with_reducible refine al ?_ _) | (with_reducible refine am ?_))); (case side2 => exact HC0.out); (case side3 => repeat (first | exact HR1.out | (with_reducible refine ak ?_ _) | (with_reducible refine al ?_ _) | (with_reducible refine am ?_))); (case side4 => exact HC1.out); rintro e w6 ⟨rfl, hb⟩; refine ⟨_, rfl, ?_⟩; have n0_ := aa (ay (by repeat (first | (with_reducible first | exact HB.out | apply ah | apply ae | apply ag) | exact HB.out)) hb); clear HB; have HB := n0_; clear n0_; (try clear hb); (try clear hb2); (try clear hk); (try clear hi)) | ((with_reducible refine gate_callee (f := 71) rfl ?_); refine goesL_ (some 15) rfl rfl Try.func71 (by kernel_rfl) rfl #[.slice A0 l0.length c0, .slice A1 l1.length c1] rfl (by (try simp only [List.map_toArray, List.map_cons, List.map_nil]); first | done | rfl | (simp only [List.length_drop, List.length_take]; rfl)) ?_; (with_reducible refine (impl_applyRepairs.calls k _ _ l0 _ _ l1 t171 t172 _ ?side1 ?side2 ?side3 ?side4 A5.out).mono ?_); (case side1 => repeat (first | exact (bl HR0.out HB.out) | (with_reducible refine ak ?_ _) | (with_reducible refine al ?_ _) | (with_reducible refine am ?_))); (case side2 => exact HC0.out); (case side3 => repeat (first | exact (bl HR1.out HB.out) | (with_reducible refine ak ?_ _) | (with_reducible refine al ?_ _) | (with_reducible refine am ?_))); (case side4 => exact HC1.out); rintro e w7 ⟨v173, rfl, ho0, hb⟩; refine ⟨_, rfl, ?_⟩; have n0_ := aa (bd ho0 (ar (by repeat (first | (with_reducible first | exact HB.out | apply ah | apply ae | apply ag) | exact HB.out)))); have n1_ := aa (ay (by repeat (first | (with_reducible first | exact HB.out | apply ah | apply ae | apply ag) | exact HB.out)) hb); clear HB; have HO174 := n0_; have HB := n1_; clear n0_ n1_; (try clear hb); (try clear hb2); (try clear hk); (try clear hi); (try clear ho0)))
  go_ret2
  exact ⟨_, by first | rfl | (simp [errW_none, errW_some] <;> rfl) | (simp [*, errW_none, errW_some] <;> rfl), by (with_reducible repeat (first | apply ab | apply ac | apply af)); exact HO174.out, by repeat (first | (with_reducible first | exact HB.out | apply ah | apply ae | apply ag) | exact HB.out)⟩
 ·rw [if_neg c4] at H
  have c4b0 : (t170 == 0) = false := beq_eq_false_iff_ne.mpr c4
  have c4b1 : (t170 != 0) = true := bne_iff_ne.mpr c4
  simp only [Option.some.injEq, Prod.mk.injEq] at H
  obtain ⟨rfl, rfl⟩ := H
  go_enter Try.func35, Try.ntmps35
  go_wp2_with (first | ((with_reducible refine gate_callee (f := 70) rfl ?_); refine goesL_ (some 9) rfl rfl Try.func70 (by kernel_rfl) rfl #[.slice A0 l0.length c0, .slice A1 l1.length c1] rfl (by (try simp only [List.map_toArray, List.map_cons, List.map_nil]); first | done | rfl | (simp only [List.length_drop, List.length_take]; rfl)) ?_; (with_reducible refine (impl_stepsCode.calls _ _ l0 _ _ l1 t170 _ ?side1 ?side2 ?side3 ?side4 A3.out).mono ?_); (case side1 => repeat (first | exact HR0.out | (with_reducible refine ak ?_ _) | (with_reducible refine al ?_ _) | (with_reducible refine am ?_))); (case side2 => exact HC0.out); (case side3 => repeat (first | exact HR1.out | (with_reducible refine ak ?_ _) | (with_reducible refine al ?_ _) | (with_reducible refine am ?_))); (case side4 => exact HC1.out); rintro e w8 ⟨rfl, hb⟩; refine ⟨_, rfl, ?_⟩; have n0_ := aa (ay (by repeat (first | (with_reducible first | exact HB.out | apply ah | apply ae | apply ag) | exact HB.out)) hb); clear HB; have HB := n0_; clear n0_; (try clear hb); (try clear hb2); (try clear hk); (try clear hi)))
  go_ret2
  exact ⟨_, by first | rfl | (simp [errW_none, errW_some] <;> rfl) | (simp [*, errW_none, errW_some] <;> rfl), by first | exact Kd.R_nil _ _ _ _ _ | exact Kd.N_nil _ _ _ _ _ | exact Kd.V_nil _ _ _ _ _ | exact Kd.Q_nil _ _ _ _ _ | exact Kd.S_nil _ _ _ _ _, by repeat (first | (with_reducible first | exact HB.out | apply ah | apply ae | apply ag) | exact HB.out)⟩

/-! ### spec_UndoRepairs: function 38 -/
def spec_UndoRepairs.l0 : Nat → List (S64) → List Int → Int → Option (List Int × Int)
 | 0, _, _, _ => none
 | k + 1, x1, x7, x8 => if x8 ≥ 0 then (if 0 ≤ x8 then (if x8 < (x1.length : Int) then (if 0 ≤ ((rd_T64 x1 x8).f0) then (if ((rd_T64 x1 x8).f0) < (x7.length : Int) then (if (rd x7 ((rd_T64 x1 x8).f0)) = ((rd_T64 x1 x8).f2) then (spec_UndoRepairs.l0 k x1 (x7.set (((rd_T64 x1 x8).f0) : Int).toNat ((rd_T64 x1 x8).f1)) (wrap64 (x8 - 1))) else (some (([] : List Int), 9))) else (none)) else (none)) else (none)) else (none)) else (some (x7, 0))
def spec_UndoRepairs.f (k : Nat) (l0 : List Int) (l1 : List (S64)) : Option (List Int × Int) := (spec_l22Code.f k l0 l1).bind fun t175 => (if t175 = 0 then ((spec_l00Own.f l0).bind fun t176 => (spec_UndoRepairs.l0 k l1 t176 (wrap64 ((l1.length : Int) - 1)))) else (some (([] : List Int), t175)))
theorem spec_UndoRepairs.mono_l : ∀ k, (∀ y0 y1 y2, LeO (spec_UndoRepairs.l0 k y0 y1 y2) (spec_UndoRepairs.l0 (k + 1) y0 y1 y2))
 | 0 => fun _ _ _ r h => by simp [spec_UndoRepairs.l0] at h
 | k + 1 => by
  have ih0 := spec_UndoRepairs.mono_l k
  ·intro y0 y1 y2
   unfold spec_UndoRepairs.l0
   repeat' first
   | (with_reducible exact ih0 _ _ _)
   | (with_reducible exact spec_l22Code.mono _ _ _)
   | (with_reducible exact LeO.refl _)
   | (with_reducible exact LeO.none _)
   | (with_reducible refine LeO.ite ?_ ?_)
   | (with_reducible refine LeO.bind ?_ (fun _ => ?_))
   | exact ih0 _ _ _
   | exact spec_l22Code.mono _ _ _
   | exact LeO.none _
   | refine LeO.ite ?_ ?_
   | refine LeO.bind ?_ (fun _ => ?_)
theorem spec_UndoRepairs.mono : ∀ a0 a1 k, LeO (spec_UndoRepairs.f k a0 a1) (spec_UndoRepairs.f (k + 1) a0 a1) := by
 intro a0 a1 k
 have ih0 := spec_UndoRepairs.mono_l k
 unfold spec_UndoRepairs.f
 repeat' first
   | (with_reducible exact ih0 _ _ _)
   | (with_reducible exact spec_l22Code.mono _ _ _)
   | (with_reducible exact LeO.refl _)
   | (with_reducible exact LeO.none _)
   | (with_reducible refine LeO.ite ?_ ?_)
   | (with_reducible refine LeO.bind ?_ (fun _ => ?_))
   | exact ih0 _ _ _
   | exact spec_l22Code.mono _ _ _
   | exact LeO.none _
   | refine LeO.ite ?_ ?_
   | refine LeO.bind ?_ (fun _ => ?_)
set_option maxHeartbeats 8000000 in
set_option maxRecDepth 100000 in
theorem spec_UndoRepairs.calls (k : Nat) (A0 : Option Addr) (c0 : Nat) (l0 : List Int) (A1 : Option Addr) (c1 : Nat) (l1 : List (S64)) (r1 : List Int) (r2 : Int) (w : World) (hr0 : Kd.C (Kd.int .i64) w A0 l0.length l0) (hc0 : l0.length ≤ c0) (hr1 : Kd.C k64 w A1 l1.length l1) (hc1 : l1.length ≤ c1) (h : spec_UndoRepairs.f k l0 l1 = some (r1, r2)) :
  Calls Try.prog 38 #[.slice A0 l0.length c0, .slice A1 l1.length c1] w fun e w' => ∃ v0_ : Value, e = .returned (.tuple #[v0_, .int .i64 r2]) ∧ Kd.R (Kd.int .i64) 2 w' w.heap.size (fun _ => True) v0_ r1 ∧ Below w.heap.size w w' := by
 have hu64 := Try.underlying64
 have HR0 := aa hr0
 have HC0 := aa hc0
 clear hr0 hc0
 have HR1 := aa hr1
 have HC1 := aa hc1
 clear hr1 hc1
 have HB := aa (Below.refl w.heap.size w)
 have H : ((spec_l22Code.f k l0 l1).bind fun t175 => (if t175 = 0 then ((spec_l00Own.f l0).bind fun t176 => (spec_UndoRepairs.l0 k l1 t176 (wrap64 ((l1.length : Int) - 1)))) else (some (([] : List Int), t175)))) = some (r1, r2) := h
 clear h
 replace H := bm.mp H
 obtain ⟨t175, A30, H⟩ := H
 (try dsimp only at H)
 have A3 := aa A30
 clear A30
 by_cases c4 : t175 = 0
 ·rw [if_pos c4] at H
  have c4b0 : (t175 == 0) = true := beq_iff_eq.mpr c4
  have c4b1 : (t175 != 0) = false := bne_eq_false_iff_eq.mpr c4
  clear c4
  replace H := bm.mp H
  obtain ⟨t176, A50, H⟩ := H
  replace H : (spec_UndoRepairs.l0 k l1 t176 (wrap64 ((l1.length : Int) - 1))) = some (r1, r2) := H
  have A5 := aa A50
  clear A50
  have H' := aa H
  clear H
  go_enter Try.func38, Try.ntmps38
  go_wp2_with (first | (go_at_call 67; (with_reducible refine (spec_l22Code.calls k _ _ l0 _ _ l1 t175 _ ?side1 ?side2 ?side3 ?side4 A3.out).mono ?_); (case side1 => repeat (first | exact HR0.out | (with_reducible refine ak ?_ _) | (with_reducible refine al ?_ _) | (with_reducible refine am ?_))); (case side2 => exact HC0.out); (case side3 => repeat (first | exact HR1.out | (with_reducible refine ak ?_ _) | (with_reducible refine al ?_ _) | (with_reducible refine am ?_))); (case side4 => exact HC1.out); rintro e w' ⟨rfl, ⟨nd, rfl⟩⟩; (try first | exact ⟨rfl, _, aj _ _ _⟩ | exact ⟨rfl, _, Eq.trans (aj _ _ _) (congrArg (World.drewN _) (Nat.add_assoc _ _ _))⟩)) | (go_at_call 68; (with_reducible refine (spec_l00Own.calls _ _ l0 t176 _ ?side1 ?side2 A5.out).mono ?_); (case side1 => repeat (first | exact HR0.out | (with_reducible refine ak ?_ _) | (with_reducible refine al ?_ _) | (with_reducible refine am ?_))); (case side2 => exact HC0.out); rintro e w6 ⟨v177, rfl, ho0, hb⟩; have n0_ := aa (bd ho0 (ar (by repeat (first | (with_reducible first | exact HB.out | apply ah | apply ae | apply ag) | exact HB.out)))); have n1_ := aa (ay (by repeat (first | (with_reducible first | exact HB.out | apply ah | apply ae | apply ag) | exact HB.out)) hb); clear HB; have HO178 := n0_; have HB := n1_; clear n0_ n1_; (try clear hb); (try clear hb2); (try clear hk); (try clear hi); (try clear ho0)))
  repeat (go_quiet (first | (go_at_call 67; (with_reducible refine (spec_l22Code.calls k _ _ l0 _ _ l1 t175 _ ?side1 ?side2 ?side3 ?side4 A3.out).mono ?_); (case side1 => repeat (first | exact HR0.out | (with_reducible refine ak ?_ _) | (with_reducible refine al ?_ _) | (with_reducible refine am ?_))); (case side2 => exact HC0.out); (case side3 => repeat (first | exact HR1.out | (with_reducible refine ak ?_ _) | (with_reducible refine al ?_ _) | (with_reducible refine am ?_))); (case side4 => exact HC1.out); rintro e w' ⟨rfl, ⟨nd, rfl⟩⟩; (try first | exact ⟨rfl, _, aj _ _ _⟩ | exact ⟨rfl, _, Eq.trans (aj _ _ _) (congrArg (World.drewN _) (Nat.add_assoc _ _ _))⟩)) | (go_at_call 68; (with_reducible refine (spec_l00Own.calls _ _ l0 t176 _ ?side1 ?side2 A5.out).mono ?_); (case side1 => repeat (first | exact HR0.out | (with_reducible refine ak ?_ _) | (with_reducible refine al ?_ _) | (with_reducible refine am ?_))); (case side2 => exact HC0.out); rintro e w6 ⟨v177, rfl, ho0, hb⟩; have n0_ := aa (bd ho0 (ar (by repeat (first | (with_reducible first | exact HB.out | apply ah | apply ae | apply ag) | exact HB.out)))); have n1_ := aa (ay (by repeat (first | (with_reducible first | exact HB.out | apply ah | apply ae | apply ag) | exact HB.out)) hb); clear HB; have HO178 := n0_; have HB := n1_; clear n0_ n1_; (try clear hb); (try clear hb2); (try clear hk); (try clear hi); (try clear ho0))); try go_wp2)
  go_loopg [8] k (fun kq v8 w' => ∃ (x7_1 : List Int) (x8_1 : Int), v8 = .int .i64 x8_1 ∧ Aside0 (spec_UndoRepairs.l0 kq l1 x7_1 x8_1 = some (r1, r2)) ∧ Aside0 (kq ≤ k) ∧ Aside0 (Kd.R (Kd.int .i64) 2 w' w.heap.size (fun _ => True) v177 x7_1) ∧ Aside0 (Below w.heap.size w w'))
  case atStart => exact ⟨(t176), (wrap64 ((l1.length : Int) - 1)), (by first | rfl | (simp; done) | (simp [*]; done)), H', ⟨Nat.le_refl _⟩, ⟨by (with_reducible repeat (first | apply ab | apply ac | apply af)); exact HO178.out⟩, ⟨by repeat (first | (with_reducible first | exact HB.out | apply ah | apply ae | apply ag) | exact HB.out)⟩⟩
  case round =>
   clear H'
   try clear c1
   try clear p2
   try clear c3
   try clear c4
   try clear c4b0
   try clear c4b1
   try clear p6
   obtain ⟨x7_1, x8_1, rfl, HA, HK1, HO_7, HB⟩ := hrel
   cases gk with
   | zero => exact absurd HA.out (by simp [spec_UndoRepairs.l0])
   | succ k1 =>
    have H := HA.out
    clear HA
    simp only [spec_UndoRepairs.l0] at H
    by_cases c7 : x8_1 ≥ 0
    ·rw [if_pos c7] at H
     have c7b0 : decide (0 ≤ x8_1) = true := decide_eq_true c7
     clear c7
     by_cases c8 : 0 ≤ x8_1
     ·rw [if_pos c8] at H
      have c8b0 : decide (0 ≤ x8_1) = true := decide_eq_true c8
      clear c8
      by_cases c9 : x8_1 < (l1.length : Int)
      ·rw [if_pos c9] at H
       have c9b0 : decide (x8_1 < (l1.length : Int)) = true := decide_eq_true c9
       clear c9
       by_cases c10 : 0 ≤ ((rd_T64 l1 x8_1).f0)
       ·rw [if_pos c10] at H
        have c10b0 : decide (0 ≤ ((rd_T64 l1 x8_1).f0)) = true := decide_eq_true c10
        clear c10
        by_cases c11 : ((rd_T64 l1 x8_1).f0) < (x7_1.length : Int)
        ·rw [if_pos c11] at H
         have c11b0 : decide (((rd_T64 l1 x8_1).f0) < (x7_1.length : Int)) = true := decide_eq_true c11
         clear c11
         by_cases c12 : (rd x7_1 ((rd_T64 l1 x8_1).f0)) = ((rd_T64 l1 x8_1).f2)
         ·rw [if_pos c12] at H
          have c12b0 : ((rd x7_1 ((rd_T64 l1 x8_1).f0)) == ((rd_T64 l1 x8_1).f2)) = true := beq_iff_eq.mpr c12
          have c12b1 : ((rd x7_1 ((rd_T64 l1 x8_1).f0)) != ((rd_T64 l1 x8_1).f2)) = false := bne_eq_false_iff_eq.mpr c12
          clear c12
          obtain ⟨y182, hy182⟩ : ∃ y_ : List Int, y_ = (x7_1.set (((rd_T64 l1 x8_1).f0) : Int).toNat ((rd_T64 l1 x8_1).f1)) := ⟨_, rfl⟩
          replace H : (spec_UndoRepairs.l0 k1 l1 y182 (wrap64 (x8_1 - 1))) = some (r1, r2) := by first | (rw [hy182]; with_reducible exact H) | (have H2_ := (Option.bind_some _ _).symm.trans H; rw [hy182]; with_reducible exact H2_) | (have H2_ := (Option.bind_some _ _).symm.trans H; with_reducible exact H2_) | with_reducible exact H | (rw [hy182]; exact H) | exact H
          have Ny182 := aa hy182
          clear hy182
          have H' := aa H
          clear H
          have p179 : 0 ≤ (x8_1 : Int) := of_decide_eq_true (by first | (with_reducible assumption) | assumption)
          have q179 : x8_1 < (l1.length : Int) := of_decide_eq_true (by first | (with_reducible assumption) | assumption)
          obtain ⟨ad179, e179, hx179_0, hx179_1, hx179_2⟩ := at_T64 HR1.out x8_1 p179 q179
          cases e179
          replace hx179_0 := (HB.out.cell (World.block_lt_of_cell? w _ hx179_0)).trans hx179_0
          replace hx179_1 := (HB.out.cell (World.block_lt_of_cell? w _ hx179_1)).trans hx179_1
          replace hx179_2 := (HB.out.cell (World.block_lt_of_cell? w _ hx179_2)).trans hx179_2
          replace p179 := eq_true p179
          replace q179 := eq_true q179
          go_wp2_with (first | ((with_reducible refine gate_dst (N := 9) rfl ?_); refine box_event ?hg (N := 9) ?hd (cs := #[.int .i64 0, .int .i64 0, .int .i64 0]) (t := 64) ?hr ?_; (case hd => rfl); (case hg => rfl); (case hr => first | (go_simp; done) | (go_simp; rfl)); intro gb180 hg w14 hbox hb; have n0_ := aa (aq (by (with_reducible repeat (first | apply ab | apply ac | apply af)); exact HO_7.out) hb); have n1_ := aa (ay (by repeat (first | (with_reducible first | exact HB.out | apply ah | apply ae | apply ag) | exact HB.out)) hb); have n2_ := aa (hbox); have n3_ := aa ((by rw [hg]; exact (ar (by repeat (first | (with_reducible first | exact HB.out | apply ah | apply ae | apply ag) | exact HB.out))) : w.heap.size ≤ gb180)); have n4_ := aa ((by rw [hg]; exact (ar (by repeat (first | (with_reducible first | exact HB.out | apply ah | apply ae | apply ag) | exact HB.out))) : w.heap.size ≤ gb180)); clear HO_7; clear HB; have HO_7 := n0_; have HB := n1_; have BK180 := n2_; have GW180 := n3_; have GE180 := n4_; clear n0_ n1_ n2_ n3_ n4_; clear hb hbox hg; have hcz15_0 : w14.cell? ⟨gb180, 0, none⟩ = some (.int .i64 0) := (be BK180.out 0).trans rfl; have hcz15_1 : w14.cell? ⟨gb180, 1, none⟩ = some (.int .i64 0) := (be BK180.out 1).trans rfl; have hcz15_2 : w14.cell? ⟨gb180, 2, none⟩ = some (.int .i64 0) := (be BK180.out 2).trans rfl; have hfz15_0 := bb BK180.out 0; have hfz15_1 := bb BK180.out 1; have hfz15_2 := bb BK180.out 2) | ((with_reducible refine gate_store (t := 64) (p := 9) rfl ?_); (try (rw [drewN_self w14]; generalize hq_ : World.drewN w14 _ = w14; have n0_ := aa (Kd.R_at hq_ HO_7.out); have n1_ := aa (blk_at hq_ BK180.out); have n2_ := aa (below_at hq_ HB.out); clear hq_ HO_7 BK180 HB; have HO_7 := n0_; have BK180 := n1_; have HB := n2_; clear n0_ n1_ n2_)); refine store_event (t := 64) (p := 9) (v := ?vo_w16) (w1 := (((w14.setCell ⟨gb180, 0, none⟩ (.int .i64 ((rd_T64 l1 x8_1).f0))).setCell ⟨gb180, 1, none⟩ (.int .i64 ((rd_T64 l1 x8_1).f1))).setCell ⟨gb180, 2, none⟩ (.int .i64 ((rd_T64 l1 x8_1).f2)))) ?hg ?ho ?hn ?hr ?_; (case ho => rfl); (case hg => rfl); (case hn => rfl); (case hr => first | (go_simp; done) | (go_simp; rfl)); intro w16 hw; have n0_ : Aside0 (Kd.R (Kd.int .i64) 2 w16 w.heap.size (fun _ => True) v177 x7_1) := ⟨(by rw [hw]; exact (by (with_reducible repeat (first | apply ab | apply ac | apply af)); exact an (Kd.R_far (p := ⟨gb180, 2, none⟩) (Kd.R_far (p := ⟨gb180, 1, none⟩) (Kd.R_far (p := ⟨gb180, 0, none⟩) (Kd.R_types HO_7.out BK180.out (by decide)) (fun _ hk => hk.2) (.int .i64 ((rd_T64 l1 x8_1).f0))) (fun _ hk => hk.2) (.int .i64 ((rd_T64 l1 x8_1).f1))) (fun _ hk => hk.2) (.int .i64 ((rd_T64 l1 x8_1).f2))) (fun _ hk => trivial)))⟩; have n1_ : Aside0 (w16.heap[gb180]? = some (.cells #[.int .i64 ((rd_T64 l1 x8_1).f0), .int .i64 ((rd_T64 l1 x8_1).f1), .int .i64 ((rd_T64 l1 x8_1).f2)] 64 (0, 0))) := ⟨(by rw [hw]; exact (by (with_reducible repeat (first | refine bh ?_ _ | refine bk ?_ | refine bi ?_ _)); refine blk_put (cs := #[.int .i64 ((rd_T64 l1 x8_1).f0), .int .i64 ((rd_T64 l1 x8_1).f1), .int .i64 0]) ?_ 2 _ rfl; (with_reducible repeat (first | refine bh ?_ _ | refine bk ?_ | refine bi ?_ _)); refine blk_put (cs := #[.int .i64 ((rd_T64 l1 x8_1).f0), .int .i64 0, .int .i64 0]) ?_ 1 _ rfl; (with_reducible repeat (first | refine bh ?_ _ | refine bk ?_ | refine bi ?_ _)); refine blk_put (cs := #[.int .i64 0, .int .i64 0, .int .i64 0]) ?_ 0 _ rfl; (with_reducible repeat (first | refine bh ?_ _ | refine bk ?_ | refine bi ?_ _)); exact BK180.out))⟩; have n2_ : Aside0 (Below w.heap.size w w16) := ⟨(by rw [hw]; exact (by repeat (first | (with_reducible first | exact HB.out | apply ah | apply ae | apply ag | refine ao ?_ GE180.out) | exact HB.out)))⟩; clear hw; clear HO_7; clear BK180; clear HB; have HO_7 := n0_; have BK180 := n1_; have HB := n2_; clear n0_ n1_ n2_; have hcz17_0 : w16.cell? ⟨gb180, 0, none⟩ = some (.int .i64 ((rd_T64 l1 x8_1).f0)) := (be BK180.out 0).trans rfl; have hcz17_1 : w16.cell? ⟨gb180, 1, none⟩ = some (.int .i64 ((rd_T64 l1 x8_1).f1)) := (be BK180.out 1).trans rfl; have hcz17_2 : w16.cell? ⟨gb180, 2, none⟩ = some (.int .i64 ((rd_T64 l1 x8_1).f2)) := (be BK180.out 2).trans rfl; have hfz17_0 := bb BK180.out 0; have hfz17_1 := bb BK180.out 1; have hfz17_2 := bb BK180.out 2; obtain ⟨Ao18, co18, eo18⟩ := ap HO_7.out; subst eo18; have p181 : 0 ≤ (((rd_T64 l1 x8_1).f0) : Int) := of_decide_eq_true (by first | (with_reducible assumption) | assumption); have q181 : ((rd_T64 l1 x8_1).f0) < (x7_1.length : Int) := of_decide_eq_true (by first | (with_reducible assumption) | assumption); obtain ⟨ad181, e181, hx181_0⟩ := bj (ai HO_7.out).2.2 ((rd_T64 l1 x8_1).f0) p181 q181; cases e181; replace p181 := eq_true p181; replace q181 := eq_true q181; have p13 : 0 ≤ (((rd_T64 l1 x8_1).f0) : Int) := of_decide_eq_true (by first | (with_reducible assumption) | assumption); have q13 : (((rd_T64 l1 x8_1).f0) : Int) < ((x7_1.length : Int) : Int) := of_decide_eq_true (by first | (with_reducible assumption) | assumption); obtain ⟨go13, co13, eo13, gb13, gl13, cl13, HG13⟩ := Kd.R_form HO_7.out (by omega); (first | cases eo13 | (injection eo13 with ea_ en_ ec_; (first | subst ea_ | (injection ea_ with ea_; subst ea_)); subst ec_; clear en_)); have GB13 := aa gb13; have GG13 := aa HG13; clear gb13 gl13 HG13; (first | simp only [add_plain] at hx181_0 | skip); obtain ⟨hx13_0, hf13_0⟩ := Kd.R_celln 0 HO_7.out (((rd_T64 l1 x8_1).f0) : Int) p13 q13; replace p13 := eq_true p13; replace q13 := eq_true q13; obtain ⟨hy19_, hz19_⟩ := Kd.R_celln 0 HO_7.out (((rd_T64 l1 x8_1).f0) : Int) (of_decide_eq_true (by first | (with_reducible assumption) | assumption)) (of_decide_eq_true (by first | (with_reducible assumption) | assumption)); have HP19 := Kd.R_putg HO_7.out (((rd_T64 l1 x8_1).f0) : Int) ((rd_T64 l1 x8_1).f1)) | ((with_reducible refine gate_store (t := 2) (p := 42) rfl ?_); (try (rw [drewN_self w16]; generalize hq_ : World.drewN w16 _ = w16; have n0_ := aa (Kd.R_at hq_ HO_7.out); have n1_ := aa (blk_at hq_ BK180.out); have n2_ := aa (below_at hq_ HB.out); clear hq_ HO_7 BK180 HB; have HO_7 := n0_; have BK180 := n1_; have HB := n2_; clear n0_ n1_ n2_; (try (obtain ⟨hy19_, hz19_⟩ := Kd.R_celln 0 HO_7.out (((rd_T64 l1 x8_1).f0) : Int) (of_decide_eq_true (by first | (with_reducible assumption) | assumption)) (of_decide_eq_true (by first | (with_reducible assumption) | assumption)))); (try (have HP19 := Kd.R_putg HO_7.out (((rd_T64 l1 x8_1).f0) : Int) ((rd_T64 l1 x8_1).f1))))); refine store_event (t := 2) (p := 42) (v := ?vo_w20) (w1 := (w16.setCell ⟨go13, (((rd_T64 l1 x8_1).f0) : Int).toNat, none⟩ (.int .i64 ((rd_T64 l1 x8_1).f1)))) ?hg ?ho ?hn ?hr ?_; (case ho => rfl); (case hg => rfl); (case hn => rfl); (case hr => first | (go_simp; done) | (go_simp; rfl)); intro w20 hw; have hg : w16.grownBy w20 (some go13) := (by rw [hw]; exact HP19.2); have hp_ : Kd.R (Kd.int .i64) 2 w20 w.heap.size (fun _ => True) (.slice (some ⟨go13, 0, none⟩) x7_1.length co18) y182 := (by rw [hw, Ny182.out]; exact HP19.1); clear HP19; have n0_ := aa (hp_); have n1_ := aa (blk_grown (g := gb180) (o := .cells #[.int .i64 ((rd_T64 l1 x8_1).f0), .int .i64 ((rd_T64 l1 x8_1).f1), .int .i64 ((rd_T64 l1 x8_1).f2)] 64 (0, 0)) (by (with_reducible repeat (first | refine bh ?_ _ | refine bk ?_ | refine bi ?_ _)); exact BK180.out) hg (Kd.R_ne HO_7.out BK180.out (by decide))); have n2_ := aa ((by rw [hw]; exact ao (HB.out) GB13.out : Below w.heap.size w w20)); clear HO_7; clear BK180; clear HB; have HO_7 := n0_; have BK180 := n1_; have HB := n2_; clear n0_ n1_ n2_; clear hg hw hp_))
          repeat (go_quiet (fail); try go_wp2_with (first | ((with_reducible refine gate_dst (N := 9) rfl ?_); refine box_event ?hg (N := 9) ?hd (cs := #[.int .i64 0, .int .i64 0, .int .i64 0]) (t := 64) ?hr ?_; (case hd => rfl); (case hg => rfl); (case hr => first | (go_simp; done) | (go_simp; rfl)); intro gb180 hg w14 hbox hb; have n0_ := aa (aq (by (with_reducible repeat (first | apply ab | apply ac | apply af)); exact HO_7.out) hb); have n1_ := aa (ay (by repeat (first | (with_reducible first | exact HB.out | apply ah | apply ae | apply ag) | exact HB.out)) hb); have n2_ := aa (hbox); have n3_ := aa ((by rw [hg]; exact (ar (by repeat (first | (with_reducible first | exact HB.out | apply ah | apply ae | apply ag) | exact HB.out))) : w.heap.size ≤ gb180)); have n4_ := aa ((by rw [hg]; exact (ar (by repeat (first | (with_reducible first | exact HB.out | apply ah | apply ae | apply ag) | exact HB.out))) : w.heap.size ≤ gb180)); clear HO_7; clear HB; have HO_7 := n0_; have HB := n1_; have BK180 := n2_; have GW180 := n3_; have GE180 := n4_; clear n0_ n1_ n2_ n3_ n4_; clear hb hbox hg; have hcz15_0 : w14.cell? ⟨gb180, 0, none⟩ = some (.int .i64 0) := (be BK180.out 0).trans rfl; have hcz15_1 : w14.cell? ⟨gb180, 1, none⟩ = some (.int .i64 0) := (be BK180.out 1).trans rfl; have hcz15_2 : w14.cell? ⟨gb180, 2, none⟩ = some (.int .i64 0) := (be BK180.out 2).trans rfl; have hfz15_0 := bb BK180.out 0; have hfz15_1 := bb BK180.out 1; have hfz15_2 := bb BK180.out 2) | ((with_reducible refine gate_store (t := 64) (p := 9) rfl ?_); (try (rw [drewN_self w14]; generalize hq_ : World.drewN w14 _ = w14; have n0_ := aa (Kd.R_at hq_ HO_7.out); have n1_ := aa (blk_at hq_ BK180.out); have n2_ := aa (below_at hq_ HB.out); clear hq_ HO_7 BK180 HB; have HO_7 := n0_; have BK180 := n1_; have HB := n2_; clear n0_ n1_ n2_)); refine store_event (t := 64) (p := 9) (v := ?vo_w16) (w1 := (((w14.setCell ⟨gb180, 0, none⟩ (.int .i64 ((rd_T64 l1 x8_1).f0))).setCell ⟨gb180, 1, none⟩ (.int .i64 ((rd_T64 l1 x8_1).f1))).setCell ⟨gb180, 2, none⟩ (.int .i64 ((rd_T64 l1 x8_1).f2)))) ?hg ?ho ?hn ?hr ?_; (case ho => rfl); (case hg => rfl); (case hn => rfl); (case hr => first | (go_simp; done) | (go_simp; rfl)); intro w16 hw; have n0_ : Aside0 (Kd.R (Kd.int .i64) 2 w16 w.heap.size (fun _ => True) v177 x7_1) := ⟨(by rw [hw]; exact (by (with_reducible repeat (first | apply ab | apply ac | apply af)); exact an (Kd.R_far (p := ⟨gb180, 2, none⟩) (Kd.R_far (p := ⟨gb180, 1, none⟩) (Kd.R_far (p := ⟨gb180, 0, none⟩) (Kd.R_types HO_7.out BK180.out (by decide)) (fun _ hk => hk.2) (.int .i64 ((rd_T64 l1 x8_1).f0))) (fun _ hk => hk.2) (.int .i64 ((rd_T64 l1 x8_1).f1))) (fun _ hk => hk.2) (.int .i64 ((rd_T64 l1 x8_1).f2))) (fun _ hk => trivial)))⟩; have n1_ : Aside0 (w16.heap[gb180]? = some (.cells #[.int .i64 ((rd_T64 l1 x8_1).f0), .int .i64 ((rd_T64 l1 x8_1).f1), .int .i64 ((rd_T64 l1 x8_1).f2)] 64 (0, 0))) := ⟨(by rw [hw]; exact (by (with_reducible repeat (first | refine bh ?_ _ | refine bk ?_ | refine bi ?_ _)); refine blk_put (cs := #[.int .i64 ((rd_T64 l1 x8_1).f0), .int .i64 ((rd_T64 l1 x8_1).f1), .int .i64 0]) ?_ 2 _ rfl; (with_reducible repeat (first | refine bh ?_ _ | refine bk ?_ | refine bi ?_ _)); refine blk_put (cs := #[.int .i64 ((rd_T64 l1 x8_1).f0), .int .i64 0, .int .i64 0]) ?_ 1 _ rfl; (with_reducible repeat (first | refine bh ?_ _ | refine bk ?_ | refine bi ?_ _)); refine blk_put (cs := #[.int .i64 0, .int .i64 0, .int .i64 0]) ?_ 0 _ rfl; (with_reducible repeat (first | refine bh ?_ _ | refine bk ?_ | refine bi ?_ _)); exact BK180.out))⟩; have n2_ : Aside0 (Below w.heap.size w w16) := ⟨(by rw [hw]; exact (by repeat (first | (with_reducible first | exact HB.out | apply ah | apply ae | apply ag | refine ao ?_ GE180.out) | exact HB.out)))⟩; clear hw; clear HO_7; clear BK180; clear HB; have HO_7 := n0_; have BK180 := n1_; have HB := n2_; clear n0_ n1_ n2_; have hcz17_0 : w16.cell? ⟨gb180, 0, none⟩ = some (.int .i64 ((rd_T64 l1 x8_1).f0)) := (be BK180.out 0).trans rfl; have hcz17_1 : w16.cell? ⟨gb180, 1, none⟩ = some (.int .i64 ((rd_T64 l1 x8_1).f1)) := (be BK180.out 1).trans rfl; have hcz17_2 : w16.cell? ⟨gb180, 2, none⟩ = some (.int .i64 ((rd_T64 l1 x8_1).f2)) := (be BK180.out 2).trans rfl; have hfz17_0 := bb BK180.out 0; have hfz17_1 := bb BK180.out 1; have hfz17_2 := bb BK180.out 2; obtain ⟨Ao18, co18, eo18⟩ := ap HO_7.out; subst eo18; have p181 : 0 ≤ (((rd_T64 l1 x8_1).f0) : Int) := of_decide_eq_true (by first | (with_reducible assumption) | assumption); have q181 : ((rd_T64 l1 x8_1).f0) < (x7_1.length : Int) := of_decide_eq_true (by first | (with_reducible assumption) | assumption); obtain ⟨ad181, e181, hx181_0⟩ := bj (ai HO_7.out).2.2 ((rd_T64 l1 x8_1).f0) p181 q181; cases e181; replace p181 := eq_true p181; replace q181 := eq_true q181; have p13 : 0 ≤ (((rd_T64 l1 x8_1).f0) : Int) := of_decide_eq_true (by first | (with_reducible assumption) | assumption); have q13 : (((rd_T64 l1 x8_1).f0) : Int) < ((x7_1.length : Int) : Int) := of_decide_eq_true (by first | (with_reducible assumption) | assumption); obtain ⟨go13, co13, eo13, gb13, gl13, cl13, HG13⟩ := Kd.R_form HO_7.out (by omega); (first | cases eo13 | (injection eo13 with ea_ en_ ec_; (first | subst ea_ | (injection ea_ with ea_; subst ea_)); subst ec_; clear en_)); have GB13 := aa gb13; have GG13 := aa HG13; clear gb13 gl13 HG13; (first | simp only [add_plain] at hx181_0 | skip); obtain ⟨hx13_0, hf13_0⟩ := Kd.R_celln 0 HO_7.out (((rd_T64 l1 x8_1).f0) : Int) p13 q13; replace p13 := eq_true p13; replace q13 := eq_true q13; obtain ⟨hy19_, hz19_⟩ := Kd.R_celln 0 HO_7.out (((rd_T64 l1 x8_1).f0) : Int) (of_decide_eq_true (by first | (with_reducible assumption) | assumption)) (of_decide_eq_true (by first | (with_reducible assumption) | assumption)); have HP19 := Kd.R_putg HO_7.out (((rd_T64 l1 x8_1).f0) : Int) ((rd_T64 l1 x8_1).f1)) | ((with_reducible refine gate_store (t := 2) (p := 42) rfl ?_); (try (rw [drewN_self w16]; generalize hq_ : World.drewN w16 _ = w16; have n0_ := aa (Kd.R_at hq_ HO_7.out); have n1_ := aa (blk_at hq_ BK180.out); have n2_ := aa (below_at hq_ HB.out); clear hq_ HO_7 BK180 HB; have HO_7 := n0_; have BK180 := n1_; have HB := n2_; clear n0_ n1_ n2_; (try (obtain ⟨hy19_, hz19_⟩ := Kd.R_celln 0 HO_7.out (((rd_T64 l1 x8_1).f0) : Int) (of_decide_eq_true (by first | (with_reducible assumption) | assumption)) (of_decide_eq_true (by first | (with_reducible assumption) | assumption)))); (try (have HP19 := Kd.R_putg HO_7.out (((rd_T64 l1 x8_1).f0) : Int) ((rd_T64 l1 x8_1).f1))))); refine store_event (t := 2) (p := 42) (v := ?vo_w20) (w1 := (w16.setCell ⟨go13, (((rd_T64 l1 x8_1).f0) : Int).toNat, none⟩ (.int .i64 ((rd_T64 l1 x8_1).f1)))) ?hg ?ho ?hn ?hr ?_; (case ho => rfl); (case hg => rfl); (case hn => rfl); (case hr => first | (go_simp; done) | (go_simp; rfl)); intro w20 hw; have hg : w16.grownBy w20 (some go13) := (by rw [hw]; exact HP19.2); have hp_ : Kd.R (Kd.int .i64) 2 w20 w.heap.size (fun _ => True) (.slice (some ⟨go13, 0, none⟩) x7_1.length co18) y182 := (by rw [hw, Ny182.out]; exact HP19.1); clear HP19; have n0_ := aa (hp_); have n1_ := aa (blk_grown (g := gb180) (o := .cells #[.int .i64 ((rd_T64 l1 x8_1).f0), .int .i64 ((rd_T64 l1 x8_1).f1), .int .i64 ((rd_T64 l1 x8_1).f2)] 64 (0, 0)) (by (with_reducible repeat (first | refine bh ?_ _ | refine bk ?_ | refine bi ?_ _)); exact BK180.out) hg (Kd.R_ne HO_7.out BK180.out (by decide))); have n2_ := aa ((by rw [hw]; exact ao (HB.out) GB13.out : Below w.heap.size w w20)); clear HO_7; clear BK180; clear HB; have HO_7 := n0_; have BK180 := n1_; have HB := n2_; clear n0_ n1_ n2_; clear hg hw hp_)))
          go_roundg k1
          case measure => have := HK1.out; omega
          case rel => exact ⟨(y182), (wrap64 (x8_1 - 1)), (by first | rfl | (simp; done) | (simp [*]; done)), H', ⟨by have := HK1.out; omega⟩, ⟨by (with_reducible repeat (first | apply ab | apply ac | apply af)); exact HO_7.out⟩, ⟨by repeat (first | (with_reducible first | exact HB.out | apply ah | apply ae | apply ag | refine ao ?_ GE180.out) | exact HB.out)⟩⟩
         ·rw [if_neg c12] at H
          have c12b0 : ((rd x7_1 ((rd_T64 l1 x8_1).f0)) == ((rd_T64 l1 x8_1).f2)) = false := beq_eq_false_iff_ne.mpr c12
          have c12b1 : ((rd x7_1 ((rd_T64 l1 x8_1).f0)) != ((rd_T64 l1 x8_1).f2)) = true := bne_iff_ne.mpr c12
          simp only [Option.some.injEq, Prod.mk.injEq] at H
          obtain ⟨rfl, rfl⟩ := H
          have p179 : 0 ≤ (x8_1 : Int) := of_decide_eq_true (by first | (with_reducible assumption) | assumption)
          have q179 : x8_1 < (l1.length : Int) := of_decide_eq_true (by first | (with_reducible assumption) | assumption)
          obtain ⟨ad179, e179, hx179_0, hx179_1, hx179_2⟩ := at_T64 HR1.out x8_1 p179 q179
          cases e179
          replace hx179_0 := (HB.out.cell (World.block_lt_of_cell? w _ hx179_0)).trans hx179_0
          replace hx179_1 := (HB.out.cell (World.block_lt_of_cell? w _ hx179_1)).trans hx179_1
          replace hx179_2 := (HB.out.cell (World.block_lt_of_cell? w _ hx179_2)).trans hx179_2
          replace p179 := eq_true p179
          replace q179 := eq_true q179
          go_wp2_with (first | ((with_reducible refine gate_dst (N := 9) rfl ?_); refine box_event ?hg (N := 9) ?hd (cs := #[.int .i64 0, .int .i64 0, .int .i64 0]) (t := 64) ?hr ?_; (case hd => rfl); (case hg => rfl); (case hr => first | (go_simp; done) | (go_simp; rfl)); intro gb180 hg w21 hbox hb; have n0_ := aa (aq (by (with_reducible repeat (first | apply ab | apply ac | apply af)); exact HO_7.out) hb); have n1_ := aa (ay (by repeat (first | (with_reducible first | exact HB.out | apply ah | apply ae | apply ag) | exact HB.out)) hb); have n2_ := aa (hbox); have n3_ := aa ((by rw [hg]; exact (ar (by repeat (first | (with_reducible first | exact HB.out | apply ah | apply ae | apply ag) | exact HB.out))) : w.heap.size ≤ gb180)); have n4_ := aa ((by rw [hg]; exact (ar (by repeat (first | (with_reducible first | exact HB.out | apply ah | apply ae | apply ag) | exact HB.out))) : w.heap.size ≤ gb180)); clear HO_7; clear HB; have HO_7 := n0_; have HB := n1_; have BK180 := n2_; have GW180 := n3_; have GE180 := n4_; clear n0_ n1_ n2_ n3_ n4_; clear hb hbox hg; have hcz22_0 : w21.cell? ⟨gb180, 0, none⟩ = some (.int .i64 0) := (be BK180.out 0).trans rfl; have hcz22_1 : w21.cell? ⟨gb180, 1, none⟩ = some (.int .i64 0) := (be BK180.out 1).trans rfl; have hcz22_2 : w21.cell? ⟨gb180, 2, none⟩ = some (.int .i64 0) := (be BK180.out 2).trans rfl; have hfz22_0 := bb BK180.out 0; have hfz22_1 := bb BK180.out 1; have hfz22_2 := bb BK180.out 2; obtain ⟨Ao23, co23, eo23⟩ := ap HO_7.out; subst eo23; have p181 : 0 ≤ (((rd_T64 l1 x8_1).f0) : Int) := of_decide_eq_true (by first | (with_reducible assumption) | assumption); have q181 : ((rd_T64 l1 x8_1).f0) < (x7_1.length : Int) := of_decide_eq_true (by first | (with_reducible assumption) | assumption); obtain ⟨ad181, e181, hx181_0⟩ := bj (ai HO_7.out).2.2 ((rd_T64 l1 x8_1).f0) p181 q181; cases e181; have hn181_0 : ad181.block ≠ gb180 := Kd.own_blk (Kd.R_ne HO_7.out BK180.out (by decide)); have hn181_1 : ad181.block ≠ gb180 := Kd.own_blk (Kd.R_ne HO_7.out BK180.out (by decide)); have hn181_2 : ad181.block ≠ gb180 := Kd.own_blk (Kd.R_ne HO_7.out BK180.out (by decide)); replace hx181_0 := (cell_far (p := ⟨gb180, 0, none⟩) (by first | (rw [bg]; exact hn181_0) | (show (Addr.add _ _).block ≠ _; rw [bg]; exact hn181_0) | exact hn181_0) (.int .i64 ((rd_T64 l1 x8_1).f0))).trans hx181_0; replace hx181_0 := (cell_far (p := ⟨gb180, 1, none⟩) (by first | (rw [bg]; exact hn181_1) | (show (Addr.add _ _).block ≠ _; rw [bg]; exact hn181_1) | exact hn181_1) (.int .i64 ((rd_T64 l1 x8_1).f1))).trans hx181_0; replace hx181_0 := (cell_far (p := ⟨gb180, 2, none⟩) (by first | (rw [bg]; exact hn181_2) | (show (Addr.add _ _).block ≠ _; rw [bg]; exact hn181_2) | exact hn181_2) (.int .i64 ((rd_T64 l1 x8_1).f2))).trans hx181_0; (try have hy181_0 := fun (n_ : Nat) => (show (((((w21.drewN n_).setCell ⟨gb180, 0, none⟩ (.int .i64 ((rd_T64 l1 x8_1).f0))).setCell ⟨gb180, 1, none⟩ (.int .i64 ((rd_T64 l1 x8_1).f1))).setCell ⟨gb180, 2, none⟩ (.int .i64 ((rd_T64 l1 x8_1).f2)))).cell? _ = some _ from hx181_0)); clear hn181_0; clear hn181_1; clear hn181_2; replace p181 := eq_true p181; replace q181 := eq_true q181))
          repeat (go_quiet (fail); try go_wp2_with (first | ((with_reducible refine gate_dst (N := 9) rfl ?_); refine box_event ?hg (N := 9) ?hd (cs := #[.int .i64 0, .int .i64 0, .int .i64 0]) (t := 64) ?hr ?_; (case hd => rfl); (case hg => rfl); (case hr => first | (go_simp; done) | (go_simp; rfl)); intro gb180 hg w21 hbox hb; have n0_ := aa (aq (by (with_reducible repeat (first | apply ab | apply ac | apply af)); exact HO_7.out) hb); have n1_ := aa (ay (by repeat (first | (with_reducible first | exact HB.out | apply ah | apply ae | apply ag) | exact HB.out)) hb); have n2_ := aa (hbox); have n3_ := aa ((by rw [hg]; exact (ar (by repeat (first | (with_reducible first | exact HB.out | apply ah | apply ae | apply ag) | exact HB.out))) : w.heap.size ≤ gb180)); have n4_ := aa ((by rw [hg]; exact (ar (by repeat (first | (with_reducible first | exact HB.out | apply ah | apply ae | apply ag) | exact HB.out))) : w.heap.size ≤ gb180)); clear HO_7; clear HB; have HO_7 := n0_; have HB := n1_; have BK180 := n2_; have GW180 := n3_; have GE180 := n4_; clear n0_ n1_ n2_ n3_ n4_; clear hb hbox hg; have hcz22_0 : w21.cell? ⟨gb180, 0, none⟩ = some (.int .i64 0) := (be BK180.out 0).trans rfl; have hcz22_1 : w21.cell? ⟨gb180, 1, none⟩ = some (.int .i64 0) := (be BK180.out 1).trans rfl; have hcz22_2 : w21.cell? ⟨gb180, 2, none⟩ = some (.int .i64 0) := (be BK180.out 2).trans rfl; have hfz22_0 := bb BK180.out 0; have hfz22_1 := bb BK180.out 1; have hfz22_2 := bb BK180.out 2; obtain ⟨Ao23, co23, eo23⟩ := ap HO_7.out; subst eo23; have p181 : 0 ≤ (((rd_T64 l1 x8_1).f0) : Int) := of_decide_eq_true (by first | (with_reducible assumption) | assumption); have q181 : ((rd_T64 l1 x8_1).f0) < (x7_1.length : Int) := of_decide_eq_true (by first | (with_reducible assumption) | assumption); obtain ⟨ad181, e181, hx181_0⟩ := bj (ai HO_7.out).2.2 ((rd_T64 l1 x8_1).f0) p181 q181; cases e181; have hn181_0 : ad181.block ≠ gb180 := Kd.own_blk (Kd.R_ne HO_7.out BK180.out (by decide)); have hn181_1 : ad181.block ≠ gb180 := Kd.own_blk (Kd.R_ne HO_7.out BK180.out (by decide)); have hn181_2 : ad181.block ≠ gb180 := Kd.own_blk (Kd.R_ne HO_7.out BK180.out (by decide)); replace hx181_0 := (cell_far (p := ⟨gb180, 0, none⟩) (by first | (rw [bg]; exact hn181_0) | (show (Addr.add _ _).block ≠ _; rw [bg]; exact hn181_0) | exact hn181_0) (.int .i64 ((rd_T64 l1 x8_1).f0))).trans hx181_0; replace hx181_0 := (cell_far (p := ⟨gb180, 1, none⟩) (by first | (rw [bg]; exact hn181_1) | (show (Addr.add _ _).block ≠ _; rw [bg]; exact hn181_1) | exact hn181_1) (.int .i64 ((rd_T64 l1 x8_1).f1))).trans hx181_0; replace hx181_0 := (cell_far (p := ⟨gb180, 2, none⟩) (by first | (rw [bg]; exact hn181_2) | (show (Addr.add _ _).block ≠ _; rw [bg]; exact hn181_2) | exact hn181_2) (.int .i64 ((rd_T64 l1 x8_1).f2))).trans hx181_0; (try have hy181_0 := fun (n_ : Nat) => (show (((((w21.drewN n_).setCell ⟨gb180, 0, none⟩ (.int .i64 ((rd_T64 l1 x8_1).f0))).setCell ⟨gb180, 1, none⟩ (.int .i64 ((rd_T64 l1 x8_1).f1))).setCell ⟨gb180, 2, none⟩ (.int .i64 ((rd_T64 l1 x8_1).f2)))).cell? _ = some _ from hx181_0)); clear hn181_0; clear hn181_1; clear hn181_2; replace p181 := eq_true p181; replace q181 := eq_true q181)))
          go_ret2
          exact ⟨_, by first | rfl | (simp [errW_none, errW_some] <;> rfl) | (simp [*, errW_none, errW_some] <;> rfl), by first | exact Kd.R_nil _ _ _ _ _ | exact Kd.N_nil _ _ _ _ _ | exact Kd.V_nil _ _ _ _ _ | exact Kd.Q_nil _ _ _ _ _ | exact Kd.S_nil _ _ _ _ _, by repeat (first | (with_reducible first | exact HB.out | apply ah | apply ae | apply ag | refine ao ?_ GE180.out) | exact HB.out)⟩
        ·rw [if_neg c11] at H
         exact absurd H (by simp)
       ·rw [if_neg c10] at H
        exact absurd H (by simp)
      ·rw [if_neg c9] at H
       exact absurd H (by simp)
     ·rw [if_neg c8] at H
      exact absurd H (by simp)
    ·rw [if_neg c7] at H
     have c7b0 : decide (0 ≤ x8_1) = false := decide_eq_false c7
     clear c7
     simp only [Option.some.injEq, Prod.mk.injEq] at H
     obtain ⟨rfl, rfl⟩ := H
     go_wp2
     repeat (go_quiet (fail); try go_wp2)
     go_ret2
     exact ⟨_, by first | rfl | (simp [errW_none, errW_some] <;> rfl) | (simp [*, errW_none, errW_some] <;> rfl), by (with_reducible repeat (first | apply ab | apply ac | apply af)); exact HO_7.out, by repeat (first | (with_reducible first | exact HB.out | apply ah | apply ae | apply ag) | exact HB.out)⟩
 ·rw [if_neg c4] at H
  have c4b0 : (t175 == 0) = false := beq_eq_false_iff_ne.mpr c4
  have c4b1 : (t175 != 0) = true := bne_iff_ne.mpr c4
  simp only [Option.some.injEq, Prod.mk.injEq] at H
  obtain ⟨rfl, rfl⟩ := H
  go_enter Try.func38, Try.ntmps38
  go_wp2_with (first | (go_at_call 67; (with_reducible refine (spec_l22Code.calls k _ _ l0 _ _ l1 t175 _ ?side1 ?side2 ?side3 ?side4 A3.out).mono ?_); (case side1 => repeat (first | exact HR0.out | (with_reducible refine ak ?_ _) | (with_reducible refine al ?_ _) | (with_reducible refine am ?_))); (case side2 => exact HC0.out); (case side3 => repeat (first | exact HR1.out | (with_reducible refine ak ?_ _) | (with_reducible refine al ?_ _) | (with_reducible refine am ?_))); (case side4 => exact HC1.out); rintro e w' ⟨rfl, ⟨nd, rfl⟩⟩; (try first | exact ⟨rfl, _, aj _ _ _⟩ | exact ⟨rfl, _, Eq.trans (aj _ _ _) (congrArg (World.drewN _) (Nat.add_assoc _ _ _))⟩)))
  repeat (go_quiet (first | (go_at_call 67; (with_reducible refine (spec_l22Code.calls k _ _ l0 _ _ l1 t175 _ ?side1 ?side2 ?side3 ?side4 A3.out).mono ?_); (case side1 => repeat (first | exact HR0.out | (with_reducible refine ak ?_ _) | (with_reducible refine al ?_ _) | (with_reducible refine am ?_))); (case side2 => exact HC0.out); (case side3 => repeat (first | exact HR1.out | (with_reducible refine ak ?_ _) | (with_reducible refine al ?_ _) | (with_reducible refine am ?_))); (case side4 => exact HC1.out); rintro e w' ⟨rfl, ⟨nd, rfl⟩⟩; (try first | exact ⟨rfl, _, aj _ _ _⟩ | exact ⟨rfl, _, Eq.trans (aj _ _ _) (congrArg (World.drewN _) (Nat.add_assoc _ _ _))⟩))); try go_wp2)
  go_ret2
  exact ⟨_, by first | rfl | (simp [errW_none, errW_some] <;> rfl) | (simp [*, errW_none, errW_some] <;> rfl), by first | exact Kd.R_nil _ _ _ _ _ | exact Kd.N_nil _ _ _ _ _ | exact Kd.V_nil _ _ _ _ _ | exact Kd.Q_nil _ _ _ _ _ | exact Kd.S_nil _ _ _ _ _, by repeat (first | (with_reducible first | exact HB.out | apply ah | apply ae | apply ag) | exact HB.out)⟩

-- inside a hand-given walk: function 73 (impl_Repair_73)

/-! ### impl_UndoRepairs: function 39 -/
section
open Go.Shelf
attribute [local go_sem] Oper.semAt_some
/-- What has come when k rounds are over: the last ones first, each with its place. -/
def bw (zs : List S64) (k : Nat) : List (Int × S64) := (List.range k).map fun j => (((zs.length - 1 - j : Nat) : Int), rd_T64 zs ((zs.length - 1 - j : Nat) : Int))
theorem bw_succ (zs : List S64) (k : Nat) : bw zs (k + 1) = bw zs k ++ [(((zs.length - 1 - k : Nat) : Int), rd_T64 zs ((zs.length - 1 - k : Nat) : Int))] := by simp [bw, List.range_succ]
theorem bw_length (zs : List S64) (k : Nat) : (bw zs k).length = k := by simp [bw]
def bwKp (n₀ Bs : Nat) (W W' : World) : Prop := Below n₀ W W' ∧ ∀ v, Boxed W Bs 41 v → Boxed W' Bs 41 v
def bwEnc (x : Int × S64) : Array Value := #[.int .i64 x.1, .agg #[.int .i64 x.2.f0, .int .i64 x.2.f1, .int .i64 x.2.f2]]
set_option maxRecDepth 100000 in
set_option maxHeartbeats 4000000 in
theorem back1_in (F : Fence) (n : Nat) (hF : F.fn 104) (hro : F.round = none) (hn : 1 ≤ n) (l Bs n₀ : Nat) (A : Option Addr) (cap : Nat) (zs : List S64) (hA : 0 < zs.length → ∀ ad, A = some ad → ad.block < n₀) (hmax : zs.length ≤ 9223372036854775807) (J Jx : List (Int × S64) → World → Prop)
  (hY : ∀ pre x W, J pre W → pre.length < zs.length → YieldAt F (n - 1) Try.prog l (bwEnc x) W fun e W' =>
   (e = .returned (.bool true) ∧ J (pre ++ [x]) W' ∧ bwKp n₀ Bs W W') ∨ (e = .returned (.bool false) ∧ Jx (pre ++ [x]) W'))
  (W : World) (hn₀ : n₀ ≤ W.heap.size) (hBs : Boxed W Bs 41 (.slice A zs.length cap)) (hc : Kd.C k64 W A zs.length zs) (h0 : J [] W) :
  CallsIn F n Try.prog 104 #[.func (.yield l) #[] #[], .pointer (some ⟨Bs, 0, none⟩)] W fun e W' => (∃ v, e = .returned v) ∧
   ((∃ ys, ys = bw zs zs.length ∧ J ys W') ∨ (∃ pre, True ∧ Jx pre W')) := by
 refine callsIn_of_wp Try.func104 rfl hF ?_ hro
 simp only [Try.ntmps104, List.size_toArray, List.length_cons, List.length_nil, Nat.reduceAdd, Nat.reduceSub, Array.replicate_succ, Array.replicate_zero, List.push_toArray, List.append_toArray, List.nil_append, List.cons_append]
 have hcell := hBs.cell
 have hneg : ¬ (zs.length : Int) < 0 := by omega
 have hw1 : wrap64 ((zs.length : Int) - 1) = (zs.length : Int) - 1 := by unfold wrap64; omega
 gi_wp2
 gi_loopw [3] (fun i wr => ∃ k : Nat, k ≤ zs.length ∧ (k < zs.length → i = .int .i64 ((zs.length - 1 - k : Nat) : Int)) ∧ (k = zs.length → i = .int .i64 (-1)) ∧ J (bw zs k) wr ∧ Below n₀ W wr ∧ Boxed wr Bs 41 (.slice A zs.length cap))
  (fun i _ => (intOf i + 1).toNat)
 case atStart =>
  refine ⟨0, Nat.zero_le _, fun h => ?_, fun h => ?_, h0, Below.refl _ _, hBs⟩
  ·rw [show ((zs.length - 1 - 0 : Nat) : Int) = (zs.length : Int) - 1 by omega]
  ·rw [← h]; rfl
 case round =>
  obtain ⟨k, hk, hi1, hi2, hJs, hnx, hbx⟩ := hrel
  have hcb := hbx.cell
  by_cases hlt : k < zs.length
  ·obtain rfl := hi1 hlt
   clear hi1 hi2
   obtain ⟨fn, tmps, assign, body, hy, hR⟩ := hY _ (((zs.length - 1 - k : Nat) : Int), rd_T64 zs ((zs.length - 1 - k : Nat) : Int)) wr hJs (by rw [bw_length]; exact hlt)
   dsimp only [bwEnc] at hy
   have hm0 : zs.length - 1 - k < zs.length := by omega
   have hnxt : k + 1 < zs.length → ((zs.length - 1 - k : Nat) : Int) - 1 = ((zs.length - 1 - (k + 1) : Nat) : Int) := fun h => by omega
   have hend : k + 1 = zs.length → zs.length - 1 - k = 0 := fun h => by omega
   have hbw := bw_succ zs k
   generalize zs.length - 1 - k = m at *
   have hmz : ¬ (m : Int) < 0 := by omega
   have hm1 : (m : Int) < (zs.length : Int) := by omega
   have hmw : wrap64 ((m : Int) - 1) = (m : Int) - 1 := by unfold wrap64; omega
   obtain ⟨ad, hA2, hx0, hx1, hx2⟩ := at_T64 hc (m : Int) (by omega) hm1
   subst hA2
   rw [Int.toNat_natCast] at hx0 hx1 hx2
   have hb0 : ad.block < n₀ := hA (by omega) ad rfl
   replace hx0 := (hnx.cell (p := ad.add (m * 3)) (by rw [show (ad.add (m * 3)).block = ad.block from by unfold Addr.add; split <;> rfl]; exact hb0)).trans hx0
   replace hx1 := (hnx.cell (p := ⟨(ad.add (m * 3)).block, (ad.add (m * 3)).off + 1, none⟩) (by show (ad.add (m * 3)).block < n₀; rw [show (ad.add (m * 3)).block = ad.block from by unfold Addr.add; split <;> rfl]; exact hb0)).trans hx1
   replace hx2 := (hnx.cell (p := ⟨(ad.add (m * 3)).block, (ad.add (m * 3)).off + 2, none⟩) (by show (ad.add (m * 3)).block < n₀; rw [show (ad.add (m * 3)).block = ad.block from by unfold Addr.add; split <;> rfl]; exact hb0)).trans hx2
   gi_wp2
   refine hR.mono ?_
   rintro e W3 (⟨rfl, hJ3, hk3⟩ | ⟨rfl, hJx3⟩)
   ·gi_wp2
    go_roundw
    case rel =>
     refine ⟨k + 1, by omega, fun h => ?_, fun h => ?_, ?_, hnx.trans hk3.1, hk3.2 _ hbx⟩
     ·rw [← hnxt h]
     ·rw [show (m : Int) - 1 = -1 by have := hend h; omega]
     ·rw [hbw]; exact hJ3
    case measure => first | (simp [intOf]; done) | (simp [intOf]; omega)
   ·gi_wp2
    refine bodyPost_ret (results_none rfl _ _ _) rfl ?_
    exact ⟨⟨_, rfl⟩, .inr ⟨_, trivial, hJx3⟩⟩
  ·obtain rfl : k = zs.length := by omega
   obtain rfl := hi2 rfl
   clear hi1 hi2
   gi_wp2
   go_end0
   exact ⟨⟨_, rfl⟩, .inl ⟨_, rfl, hJs⟩⟩
set_option maxHeartbeats 2000000 in
theorem back_in (F : Fence) (n : Nat) (hF : F.fn 73) (hro : F.round = none) (A : Option Addr) (len cap : Nat) (w : World) :
  CallsIn F n Try.prog 73 #[.slice A len cap] w fun e w' => e = .returned (.func (.func 104) #[] #[.pointer (some ⟨w.heap.size, 0, none⟩)]) ∧ w' = w.alloc (.cells #[.slice A len cap] 41) := by
 refine callsIn_of_wp Try.func73 rfl hF ?_ hro
 simp only [Try.ntmps73, List.size_toArray, List.length_cons, List.length_nil, Nat.reduceAdd, Nat.reduceSub, Array.replicate_succ, Array.replicate_zero, List.push_toArray, List.append_toArray, List.nil_append, List.cons_append]
 gi_wp2
 go_ret
 exact ⟨rfl, rfl⟩
theorem back_stops (F : Fence) (n : Nat) (hF : F.fn 104) (hro : F.round = none) (hn : 1 ≤ n) (Bs n₀ : Nat) (A : Option Addr) (cap : Nat) (zs : List S64) (hA : 0 < zs.length → ∀ ad, A = some ad → ad.block < n₀) (hmax : zs.length ≤ 9223372036854775807) (w : World) (hB : Bs < w.heap.size) (hn₀ : n₀ ≤ w.heap.size)
  (hBs : Boxed w Bs 41 (.slice A zs.length cap)) (hc : Kd.C k64 w A zs.length zs) :
  SeqStopsK F n Try.prog 104 #[.pointer (some ⟨Bs, 0, none⟩)] bwEnc (bwKp n₀ Bs) (fun ys => ys = bw zs zs.length) (fun _ => True) zs.length w := fun l J Jx W hW _ _ hY h0 =>
 back1_in F n hF hro hn l Bs n₀ A cap zs hA hmax J Jx hY W (Nat.le_trans hn₀ hW.size) ((hW.block Bs hB).trans hBs) (bl hc hW) h0
theorem bwKp_t {n₀ Bs : Nat} {A B C : World} (h : bwKp n₀ Bs A B) (k : bwKp n₀ Bs B C) : bwKp n₀ Bs A C := ⟨h.1.trans k.1, fun v hv => k.2 v (h.2 v hv)⟩
theorem bwKp_b {n₀ Bs : Nat} {w : World} (hn : n₀ ≤ w.heap.size) (hB : Bs < w.heap.size) (W : World) (l : Nat) (o o' : Obj) (hl : w.heap.size ≤ l) (h : W.heap[l]? = some o) (h1 : o.isCells = false) (h2 : o.isWalk = false) : bwKp n₀ Bs W (W.putObj l o') :=
 ⟨belowK_b hn W l o o' hl h h1 h2, fun v hv => hv.kept (grownBy_putObj' W l o') (fun e => by cases e; omega)⟩
/-- A step that is turned. -/
def turn (x : S64) : S64 := ⟨x.f0, x.f2, x.f1⟩
def turnOf (pre : List (Int × S64)) : List S64 := pre.map fun x => turn x.2
def flat (l : List S64) : List Value := l.flatMap fun x => [.int .i64 x.f0, .int .i64 x.f1, .int .i64 x.f2]
theorem flat_snoc (l : List S64) (x : S64) : flat (l ++ [x]) = flat l ++ [.int .i64 x.f0, .int .i64 x.f1, .int .i64 x.f2] := by simp [flat]
theorem flat_len : ∀ l : List S64, (flat l).length = l.length * 3
 | [] => rfl
 | x :: l => by
  have := flat_len l
  show ((Value.int .i64 x.f0) :: (Value.int .i64 x.f1) :: (Value.int .i64 x.f2) :: flat l).length = _
  simp [this]; omega
theorem flat_reps (w : World) : ∀ l : List S64, Reps (k64.K w) 3 l (flat l) := by
 intro l
 have : ∀ (n : Nat) (l : List S64), l.length = n → Reps (k64.K w) 3 l (flat l) := by
  intro n
  induction n with
  | zero => intro l hl; obtain rfl := List.eq_nil_of_length_eq_zero hl; exact Reps.none _ _
  | succ n ih =>
   intro l hl
   have hne : l ≠ [] := by intro e; rw [e] at hl; simp at hl
   have e := List.dropLast_concat_getLast hne
   rw [← e, flat_snoc]
   exact Reps.snoc (ih _ (by simp; omega)) (k64_mk w _) rfl
 exact this l.length l rfl
/-- A box of a step. -/
def Box3 (W : World) (B : Nat) (x : S64) : Prop := W.heap[B]? = some (.cells #[.int .i64 x.f0, .int .i64 x.f1, .int .i64 x.f2] 64 (0, 0))
theorem Box3.lt {W : World} {B : Nat} {x : S64} (h : Box3 W B x) : B < W.heap.size := (Array.getElem?_eq_some_iff.1 h).1
theorem Box3.kept {W W' : World} {row : Option Nat} {B : Nat} {x : S64} (h : Box3 W B x) (hg : W.grownBy W' row) (hne : some B ≠ row) : Box3 W' B x := (hg.block B h.lt hne).trans h
theorem Box3.own (B : Nat) (x : S64) : Own (fun (_ : Unit) W => Box3 W B x) := fun s X Y row hs hg hrow =>
 hs.kept hg (fun e => by obtain ⟨o, ho, hc⟩ := hrow _ e.symm; rw [show X.heap[B]? = _ from hs] at ho; cases ho; cases hc)
theorem Box3.c0 {W : World} {B : Nat} {x : S64} (h : Box3 W B x) : W.cell? ⟨B, 0, none⟩ = some (.int .i64 x.f0) := by simp [World.cell?, show W.heap[B]? = _ from h]
theorem Box3.c1 {W : World} {B : Nat} {x : S64} (h : Box3 W B x) : W.cell? ⟨B, 1, none⟩ = some (.int .i64 x.f1) := by simp [World.cell?, show W.heap[B]? = _ from h]
theorem Box3.c2 {W : World} {B : Nat} {x : S64} (h : Box3 W B x) : W.cell? ⟨B, 2, none⟩ = some (.int .i64 x.f2) := by simp [World.cell?, show W.heap[B]? = _ from h]
def impl_UndoRepairs.f (k : Nat) (l0 : List Int) (l1 : List S64) : Option (List Int × Int) := (impl_stepsCode.f l0 l1).bind fun t => if t = 0 then (if l1.length ≤ 1000 then impl_applyRepairs.f k l0 (l1.reverse.map turn) else none) else some ([], t)
theorem impl_UndoRepairs.mono : ∀ a0 a1 k, LeO (impl_UndoRepairs.f k a0 a1) (impl_UndoRepairs.f (k + 1) a0 a1) := fun _ _ _ => LeO.bind (LeO.refl _) (fun _ => LeO.ite (LeO.ite (impl_applyRepairs.mono _ _ _) (LeO.refl _)) (LeO.refl _))
theorem cells3_at {V : World} {B : Nat} {a b c : Value} (hn : V.heap[B]? = some (.cells #[a, b, c] 64 (0, 0))) (j : Nat) (u : Value) (h : ([a, b, c] : List Value)[j]? = some u) : V.cell? ((⟨B, 0, none⟩ : Addr).add j) = some u := by
 match j, h with
 | 0, h => rw [show ((⟨B, 0, none⟩ : Addr).add 0) = ⟨B, 0, none⟩ from rfl]; simp [World.cell?, hn]; simpa using h
 | 1, h => rw [show ((⟨B, 0, none⟩ : Addr).add 1) = ⟨B, 1, none⟩ from rfl]; simp [World.cell?, hn]; simpa using h
 | 2, h => rw [show ((⟨B, 0, none⟩ : Addr).add 2) = ⟨B, 2, none⟩ from rfl]; simp [World.cell?, hn]; simpa using h
theorem cells3_new (W : World) (a b c : Value) (j : Nat) (u : Value) (h : ([a, b, c] : List Value)[j]? = some u) : (W.alloc (.cells #[a, b, c] 64)).cell? ((⟨W.heap.size, 0, none⟩ : Addr).add j) = some u :=
 cells3_at (World.alloc_heap_new W _) j u h
theorem turn_bw (zs : List S64) : turnOf (bw zs zs.length) = zs.reverse.map turn := by
 unfold turnOf bw
 rw [List.map_map]
 apply List.ext_getElem
 ·simp
 ·intro i h1 h2
  have h3 : i < zs.length := by simpa using h1
  simp only [List.getElem_map, List.getElem_range, Function.comp, List.getElem_reverse]
  congr 1
  unfold rd_T64
  rw [Int.toNat_natCast, List.getD_eq_getElem?_getD, List.getElem?_eq_getElem (show zs.length - 1 - i < zs.length by omega)]; rfl
set_option maxRecDepth 100000 in
set_option maxHeartbeats 8000000 in
theorem impl_UndoRepairs.calls (k : Nat) (A0 : Option Addr) (c0 : Nat) (l0 : List Int) (A1 : Option Addr) (c1 : Nat) (l1 : List S64) (r1 : List Int) (r2 : Int) (w : World) (hr0 : Kd.C (Kd.int .i64) w A0 l0.length l0) (hc0 : l0.length ≤ c0) (hr1 : Kd.C k64 w A1 l1.length l1) (hc1 : l1.length ≤ c1) (h : impl_UndoRepairs.f k l0 l1 = some (r1, r2)) :
  Calls Try.prog 39 #[.slice A0 l0.length c0, .slice A1 l1.length c1] w fun e w' => ∃ v0_ : Value, e = .returned (.tuple #[v0_, .int .i64 r2]) ∧ Kd.R (Kd.int .i64) 2 w' w.heap.size (fun _ => True) v0_ r1 ∧ Below w.heap.size w w' := by
 unfold impl_UndoRepairs.f at h
 obtain ⟨cd, hcd, h⟩ := bm.mp h
 have HCD := aa hcd
 have HR0 := aa hr0
 have HR1 := aa hr1
 have HC0 := aa hc0
 have HC1 := aa hc1
 have HB := aa (Below.refl w.heap.size w)
 have hmax := Kd.C_max hr1
 by_cases e0 : cd = 0
 case neg =>
  rw [if_neg e0] at h
  obtain ⟨rfl, rfl⟩ := Prod.mk.inj (Option.some.inj h)
  clear h hr0 hr1 hc0 hc1 hcd
  have e1 : (cd != 0) = true := bne_iff_ne.mpr e0
  go_enter Try.func39, Try.ntmps39
  go_wp2_with (go_at_call 70; refine (impl_stepsCode.calls _ _ l0 _ _ l1 cd _ HR0.out HC0.out HR1.out HC1.out HCD.out).mono ?_; rintro e w1 ⟨rfl, hb⟩; have n0_ := aa (ay HB.out hb); clear HB hb; have HB := n0_; clear n0_)
  go_ret2
  exact ⟨_, rfl, Kd.R_nil _ _ _ _ _, HB.out⟩
 subst e0
 rw [if_pos rfl] at h
 by_cases e1 : l1.length ≤ 1000
 case neg => rw [if_neg e1] at h; cases h
 rw [if_pos e1] at h
 have HAP := aa h
 clear h hcd
 refine (callsIn_wide (n := 5)).1 ?_
 refine callsIn_of_wp_marks Try.func39 rfl trivial ?_ rfl
 simp only [Try.ntmps39, List.size_toArray, List.length_cons, List.length_nil, Nat.reduceAdd, Nat.reduceSub, Array.replicate_succ, Array.replicate_zero, List.push_toArray, List.append_toArray, List.nil_append, List.cons_append]
 gi_wp2_with (first | (refine ⟨trivial, ?_⟩; gi_at_call 70; refine (callsIn_wide.2 (impl_stepsCode.calls _ _ l0 _ _ l1 0 _ HR0.out HC0.out HR1.out HC1.out HCD.out)).mono ?_; rintro e w1 ⟨rfl, hb⟩; have n0_ := aa (ay HB.out hb); clear HB hb; have HB := n0_; clear n0_) | (gi_at_call 70; refine (callsIn_wide.2 (impl_stepsCode.calls _ _ l0 _ _ l1 0 _ HR0.out HC0.out HR1.out HC1.out HCD.out)).mono ?_; rintro e w1 ⟨rfl, hb⟩; have n0_ := aa (ay HB.out hb); clear HB hb; have HB := n0_; clear n0_) | (refine ⟨trivial, ?_⟩; gi_at_call 73; refine (back_in Fence.wide _ trivial rfl _ _ _ _).mono ?_; rintro e w2 ⟨rfl, rfl⟩) | (gi_at_call 73; refine (back_in Fence.wide _ trivial rfl _ _ _ _).mono ?_; rintro e w2 ⟨rfl, rfl⟩))
 have hsz1 := HB.out.size
 have hr1' := bl HR1.out HB.out
 obtain ⟨i0, hi, hz0, hz1, hz2⟩ := info_parts info64
 have rO : (((w1.alloc (.cells #[] 64)).alloc (.cells #[.slice (some ⟨w1.heap.size, 0, none⟩) 0 0] 41)).alloc (.cells #[.slice A1 l1.length c1] 41)).ownsRow w.heap.size 64 3 (.slice (some ⟨w1.heap.size, 0, none⟩) 0 0) 0 [] := ((World.ownsRow_lit (base := w.heap.size) (e := 64) (size := 3) w1 #[] 0 hsz1 (by decide) rfl).alloc _).alloc _
 have bO := (Boxed.new (w1.alloc (.cells #[] 64)) 41 (.slice (some ⟨w1.heap.size, 0, none⟩) 0 0)).alloc (.cells #[.slice A1 l1.length c1] 41)
 have bS := Boxed.new ((w1.alloc (.cells #[] 64)).alloc (.cells #[.slice (some ⟨w1.heap.size, 0, none⟩) 0 0] 41)) 41 (.slice A1 l1.length c1)
 simp only [World.size_alloc] at bO bS
 have hB0 : Below w.heap.size w (((w1.alloc (.cells #[] 64)).alloc (.cells #[.slice (some ⟨w1.heap.size, 0, none⟩) 0 0] 41)).alloc (.cells #[.slice A1 l1.length c1] 41)) := ((HB.out.alloc hsz1 _).alloc (by simp; omega) _).alloc (by simp; omega) _
 have hC0 := bl HR1.out hB0
 have hszW : (((w1.alloc (.cells #[] 64)).alloc (.cells #[.slice (some ⟨w1.heap.size, 0, none⟩) 0 0] 41)).alloc (.cells #[.slice A1 l1.length c1] 41)).heap.size = w1.heap.size + 3 := by simp
 have hAlt : 0 < l1.length → ∀ ad, A1 = some ad → ad.block < w.heap.size := fun h0 ad e => by
  obtain ⟨ad', e', hx, _⟩ := at_T64 HR1.out 0 (by omega) (by omega)
  rw [e] at e'
  cases e'
  exact World.block_lt_of_cell? w _ (by simpa [Addr.add] using hx)
 obtain ⟨W0, hW0⟩ : ∃ W0, ((w1.alloc (.cells #[] 64)).alloc (.cells #[.slice (some ⟨w1.heap.size, 0, none⟩) 0 0] 41)).alloc (.cells #[.slice A1 l1.length c1] 41) = W0 := ⟨_, rfl⟩
 rw [hW0] at rO bO bS hB0 hC0 hszW ⊢
 clear hW0
 refine wpIn_rangeFunc_ownH rfl (by omega) (gf := 104) (lb := #[.pointer (some ⟨w1.heap.size + 1 + 1, 0, none⟩)]) rfl trivial (enters_of Try.func104 (by kernel_rfl) rfl)
  (back_stops Fence.wide (5 - 1) trivial rfl (by omega) (w1.heap.size + 1 + 1) w.heap.size A1 c1 l1 hAlt hmax W0 (by omega) (by omega) bS hC0) bwKp_t (bwKp_b (by omega) (by omega)) (Below.refl _ _) (fun _ => rfl)
  (fun pre W => (∃ v, Boxed W (w1.heap.size + 1) 41 v ∧ W.ownsRow w.heap.size 64 3 v pre.length (flat (turnOf pre)) ∧ True) ∧ Boxed W (w1.heap.size + 1 + 1) 41 (.slice A1 l1.length c1) ∧ Below w.heap.size w W)
  (fun _ _ _ => False)
  (OwnFrom.and (Own.from (holdsRow_own w.heap.size (w1.heap.size + 1) 41 64 3 (fun pre => pre.length) (fun pre => flat (turnOf pre)) (fun _ _ => True)) _) (OwnFrom.and (Own.from (boxed_own _ _ _) _) (ownFrom_below (Nat.le_refl _) (by omega))))
  (fun _ _ _ _ _ hs _ _ => hs)
  ⟨⟨_, bO, rO, trivial⟩, bS, hB0⟩
  (fun x a' W => ∃ Bx, w1.heap.size + 1 + 1 < Bx ∧ Box3 W Bx x.2 ∧ a' = { tmps := #[.slice A0 l0.length c0, .slice A1 l1.length c1, undef, undef, .slice none 0 0, .int .i64 0, .int .i64 0, .pointer (some ⟨w1.heap.size + 1, 0, none⟩), undef, .pointer (some ⟨Bx, 0, none⟩), .slice A0 l0.length c0, .slice A1 l1.length c1, .int .i64 0, .int .i64 0, .bool false, undef, .slice (some ⟨w1.heap.size, 0, none⟩) 0 0, .slice A1 l1.length c1, .func (.func 104) #[] #[.pointer (some ⟨w1.heap.size + 1 + 1, 0, none⟩)], .int .i64 x.1, .agg #[.int .i64 x.2.f0, .int .i64 x.2.f1, .int .i64 x.2.f2], undef, undef, undef, undef, undef, undef, undef, undef, undef, undef, undef, undef, undef, undef, undef], defers := [] })
  (fun x a' _ X Y row hs hg hr => by obtain ⟨Bx, h1, h2, h3⟩ := hs; exact ⟨Bx, h1, Box3.own Bx x.2 () X Y row h2 hg (fun r e => (hr r e).2), h3⟩)
  ?assign ?body ?done ?stop
 case assign =>
  rintro l pre x W K ⟨⟨v, hv, hrow, _⟩, hbs, hB⟩ hK
  have hszz := hbs.lt
  dsimp only [bwEnc]
  gi_wp2
  exact hK _ _ ((KeepsOthers.alloc _ _).from _) ⟨(Below.refl _ W).alloc hB.size _, fun v hv => hv.alloc _⟩ ⟨⟨v, hv.alloc _, hrow.alloc _, trivial⟩, hbs.alloc _, hB.alloc hB.size _⟩ ⟨W.heap.size, hszz, World.alloc_heap_new W _, rfl⟩
 case body =>
  rintro l pre x a' W hl ⟨r, hr⟩ ⟨⟨v, hv, hrow, _⟩, hbs, hB⟩ ⟨Bx, hBx, bX, rfl⟩ hlt
  have hc := hv.cell
  have hx0 := bX.c0
  have hx1 := bX.c1
  have hx2 := bX.c2
  have hp1 : pre.length + 1 ≤ 1000 := by omega
  have hp2 : pre.length + 1 ≤ maxLen := Nat.le_trans hp1 (by decide)
  gi_wp2_with (gi_at_builtin; refine wpListIn_append_own _ rfl _ _ 41 rfl w.heap.size 64 i0 (.agg #[.int .i64 0, .int .i64 0, .int .i64 0]) 3 24 Try.underlying41 hi hz0 hz1 hz2 rfl (by decide) _ _ _ rfl (hrow.alloc _) ⟨W.heap.size, 0, none⟩ 1 1 [.int .i64 x.2.f0, .int .i64 x.2.f2, .int .i64 x.2.f1] rfl rfl (cells3_new W _ _ _) (by simp [Value.oneCell']) hp2 (by omega) (by have := hB.size; simp; omega) ?_; intro v' w3 hown' hgrow _; obtain ⟨g', cap', rfl⟩ := ownsRow_succ hown'; obtain ⟨hv1, hv2, hr2, hk2, hb2⟩ := hv.appended (by decide) hrow hB.size (by omega) hown' hgrow; have hc1 := hv1.cell; have hf1 := hv1.frozen)
  have hbk : ∀ u, Boxed W (w1.heap.size + 1 + 1) 41 u → Boxed (w3.setCell ⟨w1.heap.size + 1, 0, none⟩ (.slice (some ⟨g', 0, none⟩) (pre.length + 1) cap')) (w1.heap.size + 1 + 1) 41 u := fun u hu => ((hu.alloc _).kept hgrow (hu.not_row (by decide) hrow)).other (by omega) _
  exact ⟨hk2.from _, ⟨hb2, hbk⟩, ⟨_, hv2, by rw [show flat (turnOf (pre ++ [x])) = flat (turnOf pre) ++ [.int .i64 x.2.f0, .int .i64 x.2.f2, .int .i64 x.2.f1] from by simp [turnOf, flat, turn]]; simpa using hr2, trivial⟩, hbk _ hbs, hB.trans hb2⟩
 case done =>
  rintro D ys W hD rfl ⟨⟨v, hv, hrow, _⟩, hbs, hB⟩ hK
  rw [bw_length] at hrow
  have hcap : ∀ A c, v = .slice A l1.length c → l1.length ≤ c := by
   intro A c e
   rcases hrow.2 with ⟨e0, h0⟩ | ⟨g, cap, cur, e0, _, _, hn, _⟩
   ·rw [e0] at e; injection e with _ e2 _; omega
   ·rw [e0] at e; injection e with _ e2 e3; omega
  have hle : (turnOf (bw l1 l1.length)).length = l1.length := by simp [turnOf, bw_length]
  obtain ⟨A2, c2, rfl, hRR⟩ := own_reads_row hrow (flat_reps W (turnOf (bw l1 l1.length))) hle
  have hcap := hcap A2 c2 rfl
  rw [turn_bw] at hRR hle
  have hRC : Kd.C k64 W A2 (l1.reverse.map turn).length (l1.reverse.map turn) := by rw [hle]; exact hRR
  have hAC := impl_applyRepairs.calls k A0 c0 l0 A2 c2 (l1.reverse.map turn) r1 r2 W (bl HR0.out hB) HC0.out hRC (by rw [hle]; exact hcap) HAP.out
  rw [hle] at hAC
  have HAC := aa hAC
  have hc := hv.cell
  have hlt := (Array.getElem?_eq_some_iff.1 hK).1
  clear hAC hRC hRR hrow
  gi_wp2_with (first | (refine ⟨trivial, ?_⟩; gi_at_call 71; refine (callsIn_wide.2 HAC.out).mono ?_; rintro e w5 ⟨v5, rfl, ho, hb5⟩) | (gi_at_call 71; refine (callsIn_wide.2 HAC.out).mono ?_; rintro e w5 ⟨v5, rfl, ho, hb5⟩))
  have hK5 : w5.heap[D]? = some (.deferred (some [])) := (hb5.block D hlt).trans hK
  refine ⟨by simp, .inl ⟨_, _, rfl, run_takeDeferred hK5, ?_⟩⟩
  exact ⟨_, results_tmp2 rfl _ _ _, v5, rfl, Kd.R_of_own (ownsRow_putObj (Kd.own_of_R (bd ho hB.size)) _ hK5 rfl) (fun _ _ => trivial), (hB.trans (hb5.mono hB.size)).trans (belowK_b (w := w) (Nat.le_refl _) w5 D _ _ (by omega) hK5 rfl rfl)⟩
 case stop =>
  rintro D c pre W _ _ h _
  exact h.elim
end


end Go.Proofs.Ytfajacoagaamlaa.QFnRepairs
