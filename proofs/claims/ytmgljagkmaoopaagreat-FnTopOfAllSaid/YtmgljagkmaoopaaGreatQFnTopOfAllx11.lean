/- Walks of the Go functions that the law FnTopOfAll reaches: written by a program of this session. -/
import Derived.Test.YtmgljagkmaoopaaGreatQFnTopOfAllx0
import Derived.Test.YtmgljagkmaoopaaGreatQFnTopOfAllx2
import Derived.Test.YtmgljagkmaoopaaGreatQFnTopOfAllx3
import Derived.Test.YtmgljagkmaoopaaGreatQFnTopOfAllx5
import Derived.Test.YtmgljagkmaoopaaGreatQFnTopOfAllx9
import Derived.Test.YtmgljagkmaoopaaGreatQFnTopOfAllx10
namespace Go.Proofs.YtmgljagkmaoopaaGreat.QFnTopOfAll
open Go.RowKit Go.Proofs.YtmgljagkmaoopaaGreatW.PrintWords Go.Proofs.YtmgljagkmaoopaaGreatW.PrintLast Go.Proofs.YtmgljagkmaoopaaGreatW.PrintMore
attribute [local go_sem] max2_int min2_int max_two min_two max_three min_three max_four min_four
open Go.Proofs.YtmgljagkmaoopaaGreatW.PrintWords renaming below_alloc → ae, below_drew1 → ac, below_step → af, pw_below_drewN → ab
open Go.Proofs.YtmgljagkmaoopaaGreatW.PrintWords.Aside0 renaming mk → aa
open Go.Proofs.YtmgljagkmaoopaaGreatW.PrintWords.Kd renaming C_alloc → ar, C_below → ay, C_drew → av, C_drewN → au, at_int → ax
open Go.World renaming drewN_drewN → aj
open Option renaming bind_eq_some_iff → bf
open List renaming length_drop → b0, length_take → b2, map_cons → b4, map_nil → b5, map_toArray → b3
open Option renaming bind_some → b6
set_option linter.unusedVariables false
set_option linter.unusedSimpArgs false
attribute [local go_sem high] eqA82
def FoundIn (p : Int → Bool) (l : List Int) (e : Ending) : Prop := e = .returned (.int .i64 (Lib.idxBy (fun _ y => p y) l default))
set_option maxHeartbeats 2000000 in
theorem ints_IndexFunc (p : Int → Bool) (g : Nat) (lb : Array Value) (eg : ∀ args w, (callFunc g args).run Tryz.prog w = .ok (.enter g args) w) (A0 : Option Addr) (c0 : Nat) (l0 : List Int) (w : World) (hr0 : Kd.C (Kd.int .i64) w A0 l0.length l0)
  (hp : ∀ (x : Int), x ∈ l0 → ∀ (q : Nat), Calls Tryz.prog g (#[.int .i64 x] ++ lb) (w.drewN q) fun e w' => e = .returned (.bool (p x)) ∧ ∃ q', w' = (w.drewN q).drewN q') :
  Calls Tryz.prog 92 #[.slice A0 l0.length c0, .func (.func g) #[] lb] w fun e w' => FoundIn p l0 e ∧ ∃ q, w' = w.drewN q := by
 have hbig := Kd.C_max hr0; (have hlen : (l0.length : Int) ≤ 9223372036854775807 := by omega); have HR := aa hr0; have HP := aa hp; clear hr0 hp; go_enter Tryz.func92, Tryz.ntmps92; go_wp2
 go_loopg [5, 8] l0.length (fun gg _ s8 wr => ∃ kk q : Nat, kk ≤ l0.length ∧ l0.length - kk ≤ gg ∧ s8 = .int .i64 kk ∧ wr = w.drewN q ∧ Aside0 (∀ j, j < kk → p l0[j]! = false))
 case atStart => exact ⟨0, 0, Nat.zero_le _, by omega, rfl, rfl, ⟨fun j hj => absurd hj (Nat.not_lt_zero _)⟩⟩
 case round =>
  obtain ⟨kk, q, hkk, hg, rfl, rfl, A⟩ := hrel; by_cases hlt : kk < l0.length
  ·(have hltz : (kk : Int) < (l0.length : Int) := by omega); obtain ⟨ad, hA, hx⟩ := ax HR.out (kk : Int) (by omega) hltz
   cases hA
   (have hy0 : l0[kk]! = rd l0 (kk : Int) := by simp [rd, List.getD_eq_getElem?_getD, List.getElem!_eq_getElem?_getD]); rw [Int.toNat_natCast] at hx; (have hym : rd l0 (kk : Int) ∈ l0 := by rw [← hy0, getElem!_pos l0 kk hlt]; exact List.getElem_mem _); generalize rd l0 (kk : Int) = y at hx hy0 hym; have B := aa hy0; clear hy0
   cases hq : p y with
   | true =>
    have hcall := HP.out y hym; clear hym; rw [hq] at hcall
    go_wp2_with ((with_reducible refine (hcall _).mono ?_); rintro e w' ⟨rfl, q', rfl⟩)
    go_ret; refine ⟨?_, _, rfl⟩; unfold FoundIn; have := Lib.idxBy_hit (fun _ y => p y) l0 l0.length kk default hlt (Nat.le_refl _) (by show p l0[kk]! = true; rw [B.out]; exact hq) A.out; rw [List.take_length] at this; rw [this]; rfl
   | false =>
    have hcall := HP.out y hym; clear hym; rw [hq] at hcall
    go_wp2_with ((with_reducible refine (hcall _).mono ?_); rintro e w' ⟨rfl, q', rfl⟩)
    go_roundg (l0.length - (kk + 1))
    case measure => omega
    case rel =>
     refine ⟨kk + 1, _, by omega, by omega, by go_num, rfl, ⟨fun j hj => ?_⟩⟩; by_cases e : j = kk
     ·subst e; rw [B.out]; exact hq
     ·exact A.out j (by omega)
  ·(have hltz : ¬ (kk : Int) < (l0.length : Int) := by omega); go_wp2; go_ret; refine ⟨?_, q, rfl⟩; unfold FoundIn; have := Lib.idxBy_miss (fun _ y => p y) l0 l0.length default (fun j hj => A.out j (by omega)); rw [List.take_length] at this; rw [this]; rfl
set_option maxHeartbeats 1000000 in
theorem ints_ContainsFunc (p : Int → Bool) (g : Nat) (lb : Array Value) (eg : ∀ args w, (callFunc g args).run Tryz.prog w = .ok (.enter g args) w) (A0 : Option Addr) (c0 : Nat) (l0 : List Int) (w : World) (hr0 : Kd.C (Kd.int .i64) w A0 l0.length l0)
  (hp : ∀ (x : Int), x ∈ l0 → ∀ (q : Nat), Calls Tryz.prog g (#[.int .i64 x] ++ lb) (w.drewN q) fun e w' => e = .returned (.bool (p x)) ∧ ∃ q', w' = (w.drewN q).drewN q') :
  Calls Tryz.prog 73 #[.slice A0 l0.length c0, .func (.func g) #[] lb] w fun e w' => e = .returned (.bool (l0.any p)) ∧ ∃ q, w' = w.drewN q := by
 have hcon := ints_IndexFunc p g lb eg A0 c0 l0 w hr0 hp; have hany := Lib.idxBy_nonneg_iff (fun _ y => p y) l0 default; unfold FoundIn at hcon; generalize Lib.idxBy (fun _ y => p y) l0 default = i at hcon hany; have HA := aa hany; clear hany hr0 hp; go_enter Tryz.func73, Tryz.ntmps73
 go_wp2_with (go_at_call 92; refine hcon.mono ?_; rintro e w' ⟨rfl, q, rfl⟩)
 go_ret; refine ⟨?_, q, rfl⟩; rw [← HA.out]; rfl
theorem within_ac (a b c : Int) : impl_within.f a b c = some (decide (b ≤ a ∧ a ≤ c)) := by
 unfold impl_within.f; by_cases h : a ≥ b
 ·rw [if_pos h]; simp [show b ≤ a from h]
 ·rw [if_neg h]; simp [show ¬ b ≤ a from h]
theorem areCol_lit (x : Int) : impl_areColours_1.f x = some (!decide (0 ≤ x ∧ x ≤ 9)) := by
 unfold impl_areColours_1.f; simp only [within_ac, b6]
def impl_areColours.f (a0 : Int) (l1 : List Int) : Option (Bool) := some (decide ((l1.length : Int) = a0) && l1.all fun x => decide (0 ≤ x ∧ x ≤ 9))
set_option maxHeartbeats 1000000 in
theorem impl_areColours.calls (a0 : Int) (A1 : Option Addr) (c1 : Nat) (l1 : List Int) (r : Bool) (w : World) (hr1 : Kd.C (Kd.int .i64) w A1 l1.length l1) (hc1 : l1.length ≤ c1) (h : impl_areColours.f a0 l1 = some r) :
  Calls Tryz.prog 43 #[.int .i64 a0, .slice A1 l1.length c1] w fun e w' => e = .returned (.bool r) ∧ Below w.heap.size w w' := by
 have hres : (decide ((l1.length : Int) = a0) && !l1.any fun x => !decide (0 ≤ x ∧ x ≤ 9)) = r := by
  have := Option.some.inj h; rw [← this, List.all_eq_not_any_not]
 clear h; have eg : ∀ args w, (callFunc 74 args).run Tryz.prog w = .ok (.enter 74 args) w := Go.Proofs.YtmgljagkmaoopaaGreat.Hand.enters Tryz.func74 (by kernel_rfl) rfl
 have hcon := ints_ContainsFunc (fun x => !decide (0 ≤ x ∧ x ≤ 9)) 74 #[] eg A1 c1 l1 w hr1
  (fun x _ q => (impl_areColours_1.calls x (!decide (0 ≤ x ∧ x ≤ 9)) (w.drewN q) (areCol_lit x)).mono fun e w' hh => ⟨hh.1, hh.2.out⟩)
 generalize (l1.any fun x => !decide (0 ≤ x ∧ x ≤ 9)) = b at hcon hres; by_cases h2 : (l1.length : Int) = a0
 ·rw [decide_eq_true h2, Bool.true_and] at hres; (have hd2 : ((l1.length : Int) == a0) = true := by simp [h2]); have HE := aa hres; clear hr1 hres; go_enter Tryz.func43, Tryz.ntmps43
  go_wp2_with (go_at_call 73; refine hcon.mono ?_; rintro e w' ⟨rfl, q, rfl⟩)
  go_ret; exact ⟨by rw [← HE.out]; rfl, ab (Below.refl _ _) q⟩
 ·rw [decide_eq_false h2, Bool.false_and] at hres; (have hd2 : ((l1.length : Int) == a0) = false := by simp [h2]); subst hres; clear hr1 hcon; go_enter Tryz.func43, Tryz.ntmps43; go_wp2; go_ret; exact ⟨rfl, Below.refl _ w⟩
def clashAt (p : S82 → Bool) : List S82 → Int → Int
 | [], _ => -1
 | x :: r, i => if p x then i else clashAt p r (i + 1)
theorem clashAt_drop (p : S82 → Bool) (l : List S82) (kk : Nat) (h : kk < l.length) : clashAt p (l.drop kk) (kk : Int) = if p (rd_T82 l (kk : Int)) then (kk : Int) else clashAt p (l.drop (kk + 1)) (((kk + 1 : Nat)) : Int) := by
 rw [List.drop_eq_getElem_cons h, clashAt]; unfold rd_T82; rw [Int.toNat_natCast, List.getD_eq_getElem?_getD, List.getElem?_eq_getElem h]; rfl
theorem clash_mem (l0 : List S82) (kk : Nat) (h : kk < l0.length) : rd_T82 l0 (kk : Int) ∈ l0 := by
 unfold rd_T82; rw [Int.toNat_natCast, List.getD_eq_getElem?_getD, List.getElem?_eq_getElem h]; exact List.getElem_mem _
set_option maxHeartbeats 2000000 in
theorem clash_IndexFunc (p : S82 → Bool) (g : Nat) (lb : Array Value) (eg : ∀ args w, (callFunc g args).run Tryz.prog w = .ok (.enter g args) w) (A0 : Option Addr) (c0 : Nat) (l0 : List S82) (w : World) (hr0 : Kd.C k82 w A0 l0.length l0)
  (hp : ∀ (x : S82) (W : World), x ∈ l0 → Below w.heap.size w W → Calls Tryz.prog g (#[.agg #[.int .i64 x.f0, .int .i64 x.f1]] ++ lb) W fun e w' => e = .returned (.bool (p x)) ∧ Below w.heap.size w w') :
  Calls Tryz.prog 75 #[.slice A0 l0.length c0, .func (.func g) #[] lb] w fun e w' => e = .returned (.int .i64 (clashAt p l0 0)) ∧ Below w.heap.size w w' := by
 have hbig := Kd.C_max hr0; (have hlen : (l0.length : Int) ≤ 9223372036854775807 := by omega); have HR := aa hr0; have HP := aa hp; clear hr0 hp; go_enter Tryz.func75, Tryz.ntmps75; go_wp2
 go_loopg [5, 8] l0.length (fun gg _ s8 wr => ∃ kk : Nat, kk ≤ l0.length ∧ l0.length - kk ≤ gg ∧ s8 = .int .i64 kk ∧ Aside0 (Below w.heap.size w wr) ∧ Aside0 (clashAt p l0 0 = clashAt p (l0.drop kk) (kk : Int)))
 case atStart => exact ⟨0, Nat.zero_le _, by omega, rfl, ⟨Below.refl _ w⟩, ⟨rfl⟩⟩
 case round =>
  obtain ⟨kk, hkk, hg, rfl, BW, A⟩ := hrel; by_cases hlt : kk < l0.length
  ·(have hltz : (kk : Int) < (l0.length : Int) := by omega); obtain ⟨ad, hA, hx0, hx1⟩ := at_T82 (ay HR.out BW.out) (kk : Int) (by omega) hltz
   cases hA
   have hcall := HP.out (rd_T82 l0 (kk : Int)) wr (clash_mem l0 kk hlt) BW.out; have hd := clashAt_drop p l0 kk hlt; rw [Int.toNat_natCast] at hx0 hx1; generalize hy : rd_T82 l0 (kk : Int) = y at hx0 hx1 hcall hd; have D := aa hd; clear hy hd
   cases hq : p y with
   | true =>
    rw [hq] at hcall
    go_wp2_with ((with_reducible refine hcall.mono ?_); rintro e w' ⟨rfl, hb'⟩)
    go_ret; refine ⟨?_, hb'⟩; rw [A.out, D.out, hq]; rfl
   | false =>
    rw [hq] at hcall
    go_wp2_with ((with_reducible refine hcall.mono ?_); rintro e w' ⟨rfl, hb'⟩)
    go_roundg (l0.length - (kk + 1))
    case measure => omega
    case rel =>
     refine ⟨kk + 1, by omega, by omega, by go_num, ⟨hb'⟩, ⟨?_⟩⟩; rw [A.out, D.out, hq]; rfl
  ·(have hltz : ¬ (kk : Int) < (l0.length : Int) := by omega); go_wp2; go_ret; refine ⟨?_, BW.out⟩; rw [A.out, show l0.drop kk = [] from List.drop_eq_nil_of_le (by omega)]; rfl
set_option maxHeartbeats 4000000 in
set_option maxRecDepth 100000 in
theorem clash_lit (A1 : Option Addr) (c1 : Nat) (l1 : List Int) (x : S82) (B : Nat) (W : World) (h0 : 0 ≤ x.f0) (h1 : x.f0 < l1.length) (h2 : 0 ≤ x.f1) (h3 : x.f1 < l1.length) (hin : (Kd.int .i64).C W A1 l1.length l1) (hc : W.cell? ⟨B, 0, none⟩ = some (.slice A1 l1.length c1)) :
  Calls Tryz.prog 76 #[.agg #[.int .i64 x.f0, .int .i64 x.f1], .pointer (some ⟨B, 0, none⟩)] W fun e w' => e = .returned (.bool (rd l1 x.f0 == rd l1 x.f1)) ∧ Below W.heap.size W w' := by
 have hwa := ar hin (.cells #[.int .i64 x.f0, .int .i64 x.f1] 82)
 have hs : B < W.heap.size := by
  by_cases h : B < W.heap.size
  ·exact h
  ·simp [World.cell?, Array.getElem?_eq_none (Nat.not_lt.1 h)] at hc
 have hc' : (W.alloc (.cells #[.int .i64 x.f0, .int .i64 x.f1] 82)).cell? ⟨B, 0, none⟩ = some (.slice A1 l1.length c1) := ((ae (Below.refl _ W) _).cell (p := ⟨B, 0, none⟩) hs).trans hc; obtain ⟨ad, hA, hx⟩ := ax hwa x.f0 h0 h1; obtain ⟨ad2, hA2, hx2⟩ := ax hwa x.f1 h2 h3
 cases hA
 cases hA2
 have p0 := eq_true h0; have p1 := eq_true h1; have p2 := eq_true h2; have p3 := eq_true h3; clear hin hwa hc; go_enter Tryz.func76, Tryz.ntmps76; go_wp2; (repeat (go_quiet (fail); try go_wp2)); go_ret; exact ⟨by first | rfl | (simp; done), by repeat (first | exact Below.refl _ _ | (with_reducible first | apply ab | apply ac | apply ae))⟩
def impl_firstClash.f (l0 : List S82) (l1 : List Int) : Option (Int) := if (l0.all fun x => decide (0 ≤ x.f0 ∧ x.f0 < (l1.length : Int) ∧ 0 ≤ x.f1 ∧ x.f1 < (l1.length : Int))) = true then some (clashAt (fun x => rd l1 x.f0 == rd l1 x.f1) l0 0) else none
set_option maxHeartbeats 4000000 in
set_option maxRecDepth 100000 in
theorem impl_firstClash.calls (A0 : Option Addr) (c0 : Nat) (l0 : List S82) (A1 : Option Addr) (c1 : Nat) (l1 : List Int) (r : Int) (w : World) (hr0 : Kd.C k82 w A0 l0.length l0) (hc0 : l0.length ≤ c0) (hr1 : Kd.C (Kd.int .i64) w A1 l1.length l1) (hc1 : l1.length ≤ c1) (h : impl_firstClash.f l0 l1 = some r) :
  Calls Tryz.prog 44 #[.slice A0 l0.length c0, .slice A1 l1.length c1] w fun e w' => e = .returned (.int .i64 r) ∧ Below w.heap.size w w' := by
 unfold impl_firstClash.f at h; by_cases hp : (l0.all fun x => decide (0 ≤ x.f0 ∧ x.f0 < (l1.length : Int) ∧ 0 ≤ x.f1 ∧ x.f1 < (l1.length : Int))) = true
 case neg => rw [if_neg hp] at h; cases h
 rw [if_pos hp] at h; have hres := Option.some.inj h; clear h; have eg : ∀ args w, (callFunc 76 args).run Tryz.prog w = .ok (.enter 76 args) w := Go.Proofs.YtmgljagkmaoopaaGreat.Hand.enters Tryz.func76 (by kernel_rfl) rfl; have hb : Below w.heap.size w (w.alloc (.cells #[.slice A1 l1.length c1] 27)) := (Below.refl _ w).alloc (Nat.le_refl _) _; (have hcell : (w.alloc (.cells #[.slice A1 l1.length c1] 27)).cell? ⟨w.heap.size, 0, none⟩ = some (.slice A1 l1.length c1) := by go_simp); (have hsz : (w.alloc (.cells #[.slice A1 l1.length c1] 27)).heap.size = w.heap.size + 1 := by simp); generalize hwa : w.alloc (.cells #[.slice A1 l1.length c1] 27) = wa at hb hcell hsz
 have hcon : Calls Tryz.prog 75 #[.slice A0 l0.length c0, .func (.func 76) #[] #[.pointer (some ⟨w.heap.size, 0, none⟩)]] wa fun e w' => e = .returned (.int .i64 (clashAt (fun x => rd l1 x.f0 == rd l1 x.f1) l0 0)) ∧ Below wa.heap.size wa w' :=
  clash_IndexFunc (fun x => rd l1 x.f0 == rd l1 x.f1) 76 #[.pointer (some ⟨w.heap.size, 0, none⟩)] eg A0 c0 l0 wa (ay hr0 hb)
   (fun x W hx hW => by
    have hq := List.all_eq_true.1 hp x hx; have hq := of_decide_eq_true hq
    exact (clash_lit A1 c1 l1 x w.heap.size W hq.1 hq.2.1 hq.2.2.1 hq.2.2.2 (ay (ay hr1 hb) hW) ((hW.cell (p := ⟨w.heap.size, 0, none⟩) (by show w.heap.size < wa.heap.size; omega)).trans hcell)).mono fun e w' hh => ⟨hh.1, hW.trans (hh.2.mono hW.size)⟩)
 have HFIN := aa (fun w1 (h1 : Below wa.heap.size wa w1) => hb.trans (h1.mono (by omega))); subst hwa; rw [hres] at hcon; have HCON := aa hcon; clear hcon hres hr0 hr1 hb hcell hsz eg hp; go_enter Tryz.func44, Tryz.ntmps44
 go_wp2_with (go_at_call 75; refine HCON.out.mono ?_; rintro e w2 ⟨rfl, hb2⟩; have HB2 := aa hb2; clear hb2)
 go_ret; exact ⟨rfl, HFIN.out _ HB2.out⟩
def impl_FirstClash.f (k : Nat) (a0 : Int) (l1 : List (S82)) (l2 : List Int) : Option (Int × Int) := (impl_ValidBorders.f k a0 l1).bind fun t239 => (if t239 = true then ((impl_areColours.f a0 l2).bind fun t240 => (if t240 = true then ((impl_firstClash.f l1 l2).bind fun t241 => (some (t241, 0))) else (some (0, 2)))) else (some (0, 1)))
theorem impl_FirstClash.mono : ∀ a0 a1 a2 k, LeO (impl_FirstClash.f k a0 a1 a2) (impl_FirstClash.f (k + 1) a0 a1 a2) := by
 intro a0 a1 a2 k; unfold impl_FirstClash.f
 repeat' first
   | (with_reducible exact impl_ValidBorders.mono _ _ _)
   | (with_reducible exact LeO.refl _)
   | (with_reducible exact LeO.none _)
   | (with_reducible refine LeO.ite ?_ ?_)
   | (with_reducible refine LeO.bind ?_ (fun _ => ?_))
   | exact impl_ValidBorders.mono _ _ _
   | exact LeO.none _
   | refine LeO.ite ?_ ?_
   | refine LeO.bind ?_ (fun _ => ?_)
set_option maxHeartbeats 8000000 in
set_option maxRecDepth 100000 in
theorem impl_FirstClash.calls (k : Nat) (a0 : Int) (A1 : Option Addr) (c1 : Nat) (l1 : List (S82)) (A2 : Option Addr) (c2 : Nat) (l2 : List Int) (r1 : Int) (r2 : Int) (w : World) (hr1 : Kd.C k82 w A1 l1.length l1) (hc1 : l1.length ≤ c1) (hr2 : Kd.C (Kd.int .i64) w A2 l2.length l2) (hc2 : l2.length ≤ c2) (h : impl_FirstClash.f k a0 l1 l2 = some (r1, r2)) :
  Calls Tryz.prog 14 #[.int .i64 a0, .slice A1 l1.length c1, .slice A2 l2.length c2] w fun e w' => e = .returned (.tuple #[.int .i64 r1, .int .i64 r2]) ∧ Below w.heap.size w w' := by
 have HR1 := aa hr1; have HC1 := aa hc1; clear hr1 hc1; have HR2 := aa hr2; have HC2 := aa hc2; clear hr2 hc2; have HB := aa (Below.refl w.heap.size w); have H : ((impl_ValidBorders.f k a0 l1).bind fun t239 => (if t239 = true then ((impl_areColours.f a0 l2).bind fun t240 => (if t240 = true then ((impl_firstClash.f l1 l2).bind fun t241 => (some (t241, 0))) else (some (0, 2)))) else (some (0, 1)))) = some (r1, r2) := h; clear h; replace H := bf.mp H; obtain ⟨t239, A40, H⟩ := H; (try dsimp only at H); have A4 := aa A40; clear A40; by_cases c5 : t239 = true
 ·subst c5; have H1 := H; rw [if_pos rfl] at H1; clear H; have H := H1; clear H1; replace H := bf.mp H; obtain ⟨t240, A60, H⟩ := H; (try dsimp only at H); have A6 := aa A60; clear A60; by_cases c7 : t240 = true
  ·subst c7; (have H1 : ((impl_firstClash.f l1 l2).bind fun t241 => (some (t241, 0))) = some (r1, r2) := by rw [if_pos rfl] at H; exact H); clear H; have H := H1; clear H1; replace H := bf.mp H; obtain ⟨t241, A80, H⟩ := H; replace H : (some (t241, 0)) = some (r1, r2) := H; have A8 := aa A80; clear A80; simp only [Option.some.injEq, Prod.mk.injEq] at H; obtain ⟨rfl, rfl⟩ := H; go_enter Tryz.func14, Tryz.ntmps14
   go_wp2_with (first | ((with_reducible refine gate_callee (f := 39) rfl ?_); refine goesL_ (some 10) rfl rfl Tryz.func39 (by kernel_rfl) rfl #[.int .i64 a0, .slice A1 l1.length c1] rfl (by (try simp only [b3, b4, b5]); first | done | rfl | (simp only [b0, b2]; rfl)) ?_; (with_reducible refine (impl_ValidBorders.calls k a0 _ _ l1 true _ ?side1 ?side2 A4.out).mono ?_); (case side1 => repeat (first | exact HR1.out | (with_reducible refine ar ?_ _) | (with_reducible refine au ?_ _) | (with_reducible refine av ?_))); (case side2 => exact HC1.out); rintro e w9 ⟨rfl, hb⟩; refine ⟨_, rfl, ?_⟩; have n0_ := aa (af (by repeat (first | (with_reducible first | exact HB.out | apply ae | apply ab | apply ac) | exact HB.out)) hb); clear HB; have HB := n0_; clear n0_; (try clear hb); (try clear hb2); (try clear hk); (try clear hi)) | ((with_reducible refine gate_callee (f := 43) rfl ?_); refine goesL_ (some 14) rfl rfl Tryz.func43 (by kernel_rfl) rfl #[.int .i64 a0, .slice A2 l2.length c2] rfl (by (try simp only [b3, b4, b5]); first | done | rfl | (simp only [b0, b2]; rfl)) ?_; (with_reducible refine (impl_areColours.calls a0 _ _ l2 true _ ?side1 ?side2 A6.out).mono ?_); (case side1 => repeat (first | exact (ay HR2.out HB.out) | (with_reducible refine ar ?_ _) | (with_reducible refine au ?_ _) | (with_reducible refine av ?_))); (case side2 => exact HC2.out); rintro e w10 ⟨rfl, hb⟩; refine ⟨_, rfl, ?_⟩; have n0_ := aa (af (by repeat (first | (with_reducible first | exact HB.out | apply ae | apply ab | apply ac) | exact HB.out)) hb); clear HB; have HB := n0_; clear n0_; (try clear hb); (try clear hb2); (try clear hk); (try clear hi)) | ((with_reducible refine gate_callee (f := 44) rfl ?_); refine goesL_ (some 18) rfl rfl Tryz.func44 (by kernel_rfl) rfl #[.slice A1 l1.length c1, .slice A2 l2.length c2] rfl (by (try simp only [b3, b4, b5]); first | done | rfl | (simp only [b0, b2]; rfl)) ?_; (with_reducible refine (impl_firstClash.calls _ _ l1 _ _ l2 t241 _ ?side1 ?side2 ?side3 ?side4 A8.out).mono ?_); (case side1 => repeat (first | exact (ay HR1.out HB.out) | (with_reducible refine ar ?_ _) | (with_reducible refine au ?_ _) | (with_reducible refine av ?_))); (case side2 => exact HC1.out); (case side3 => repeat (first | exact (ay HR2.out HB.out) | (with_reducible refine ar ?_ _) | (with_reducible refine au ?_ _) | (with_reducible refine av ?_))); (case side4 => exact HC2.out); rintro e w11 ⟨rfl, hb⟩; refine ⟨_, rfl, ?_⟩; have n0_ := aa (af (by repeat (first | (with_reducible first | exact HB.out | apply ae | apply ab | apply ac) | exact HB.out)) hb); clear HB; have HB := n0_; clear n0_; (try clear hb); (try clear hb2); (try clear hk); (try clear hi)))
   go_ret2; exact ⟨by first | rfl | (simp [errW_none, errW_some] <;> rfl) | (simp [*, errW_none, errW_some] <;> rfl), by repeat (first | (with_reducible first | exact HB.out | apply ae | apply ab | apply ac) | exact HB.out)⟩
  ·replace c7 := Bool.eq_false_iff.mpr c7; subst c7; (have H1 : (some (0, 2)) = some (r1, r2) := by rw [if_neg (show ¬ (false = true) by decide)] at H; exact H); clear H; have H := H1; clear H1; simp only [Option.some.injEq, Prod.mk.injEq] at H; obtain ⟨rfl, rfl⟩ := H; go_enter Tryz.func14, Tryz.ntmps14
   go_wp2_with (first | ((with_reducible refine gate_callee (f := 39) rfl ?_); refine goesL_ (some 10) rfl rfl Tryz.func39 (by kernel_rfl) rfl #[.int .i64 a0, .slice A1 l1.length c1] rfl (by (try simp only [b3, b4, b5]); first | done | rfl | (simp only [b0, b2]; rfl)) ?_; (with_reducible refine (impl_ValidBorders.calls k a0 _ _ l1 true _ ?side1 ?side2 A4.out).mono ?_); (case side1 => repeat (first | exact HR1.out | (with_reducible refine ar ?_ _) | (with_reducible refine au ?_ _) | (with_reducible refine av ?_))); (case side2 => exact HC1.out); rintro e w12 ⟨rfl, hb⟩; refine ⟨_, rfl, ?_⟩; have n0_ := aa (af (by repeat (first | (with_reducible first | exact HB.out | apply ae | apply ab | apply ac) | exact HB.out)) hb); clear HB; have HB := n0_; clear n0_; (try clear hb); (try clear hb2); (try clear hk); (try clear hi)) | ((with_reducible refine gate_callee (f := 43) rfl ?_); refine goesL_ (some 14) rfl rfl Tryz.func43 (by kernel_rfl) rfl #[.int .i64 a0, .slice A2 l2.length c2] rfl (by (try simp only [b3, b4, b5]); first | done | rfl | (simp only [b0, b2]; rfl)) ?_; (with_reducible refine (impl_areColours.calls a0 _ _ l2 false _ ?side1 ?side2 A6.out).mono ?_); (case side1 => repeat (first | exact (ay HR2.out HB.out) | (with_reducible refine ar ?_ _) | (with_reducible refine au ?_ _) | (with_reducible refine av ?_))); (case side2 => exact HC2.out); rintro e w13 ⟨rfl, hb⟩; refine ⟨_, rfl, ?_⟩; have n0_ := aa (af (by repeat (first | (with_reducible first | exact HB.out | apply ae | apply ab | apply ac) | exact HB.out)) hb); clear HB; have HB := n0_; clear n0_; (try clear hb); (try clear hb2); (try clear hk); (try clear hi)))
   go_ret2; exact ⟨by first | rfl | (simp [errW_none, errW_some] <;> rfl) | (simp [*, errW_none, errW_some] <;> rfl), by repeat (first | (with_reducible first | exact HB.out | apply ae | apply ab | apply ac) | exact HB.out)⟩
 ·replace c5 := Bool.eq_false_iff.mpr c5; subst c5; (have H1 : (some (0, 1)) = some (r1, r2) := by rw [if_neg (show ¬ (false = true) by decide)] at H; exact H); clear H; have H := H1; clear H1; simp only [Option.some.injEq, Prod.mk.injEq] at H; obtain ⟨rfl, rfl⟩ := H; go_enter Tryz.func14, Tryz.ntmps14
  go_wp2_with (first | ((with_reducible refine gate_callee (f := 39) rfl ?_); refine goesL_ (some 10) rfl rfl Tryz.func39 (by kernel_rfl) rfl #[.int .i64 a0, .slice A1 l1.length c1] rfl (by (try simp only [b3, b4, b5]); first | done | rfl | (simp only [b0, b2]; rfl)) ?_; (with_reducible refine (impl_ValidBorders.calls k a0 _ _ l1 false _ ?side1 ?side2 A4.out).mono ?_); (case side1 => repeat (first | exact HR1.out | (with_reducible refine ar ?_ _) | (with_reducible refine au ?_ _) | (with_reducible refine av ?_))); (case side2 => exact HC1.out); rintro e w14 ⟨rfl, hb⟩; refine ⟨_, rfl, ?_⟩; have n0_ := aa (af (by repeat (first | (with_reducible first | exact HB.out | apply ae | apply ab | apply ac) | exact HB.out)) hb); clear HB; have HB := n0_; clear n0_; (try clear hb); (try clear hb2); (try clear hk); (try clear hi)))
  go_ret2; exact ⟨by first | rfl | (simp [errW_none, errW_some] <;> rfl) | (simp [*, errW_none, errW_some] <;> rfl), by repeat (first | (with_reducible first | exact HB.out | apply ae | apply ab | apply ac) | exact HB.out)⟩
mutual
def spec_l09Ok.l0 : Nat → Int → List (S82) → Int → Option (Bool)
 | 0, _, _, _ => none
 | k + 1, x0, x1, x5 => if x5 < (x1.length : Int) then (if 0 ≤ x5 then ((spec_l00In.f ((rd_T82 x1 x5).f1) 0 (wrap64 (x0 - 1))).bind fun t244 => (if t244 = true then ((spec_l00In.f ((rd_T82 x1 x5).f0) 0 (wrap64 (((rd_T82 x1 x5).f1) - 1))).bind fun t247 => (spec_l09Ok.j1 k x0 x1 x5 (!t247))) else (spec_l09Ok.j1 k x0 x1 x5 true))) else (none)) else (some (decide ((x1.length : Int) ≤ 30)))
def spec_l09Ok.j1 : Nat → Int → List (S82) → Int → Bool → Option (Bool)
 | 0, _, _, _, _ => none
 | k + 1, x0, x1, x5, x39 => if x39 = true then (some false) else (spec_l09Ok.l1 k x0 x1 x5 0)
def spec_l09Ok.l1 : Nat → Int → List (S82) → Int → Int → Option (Bool)
 | 0, _, _, _, _ => none
 | k + 1, x0, x1, x5, x6 => if x6 < x5 then (if 0 ≤ x6 then (if x6 < (x1.length : Int) then (if 0 ≤ x5 then (if x5 < (x1.length : Int) then (if (((rd_T82 x1 x6).f0) == ((rd_T82 x1 x5).f0) && (((rd_T82 x1 x6).f1) == ((rd_T82 x1 x5).f1))) = true then (some false) else (spec_l09Ok.l1 k x0 x1 x5 (wrap64 (x6 + 1)))) else (none)) else (none)) else (none)) else (none)) else (spec_l09Ok.l0 k x0 x1 (wrap64 (x5 + 1)))
end
def spec_l09Ok.f (k : Nat) (a0 : Int) (l1 : List (S82)) : Option (Bool) := (spec_l00In.f a0 1 10).bind fun t242 => (if t242 = true then (spec_l09Ok.l0 k a0 l1 0) else (some false))
theorem spec_l09Ok.mono_l : ∀ k, (∀ y0 y1 y2, LeO (spec_l09Ok.l0 k y0 y1 y2) (spec_l09Ok.l0 (k + 1) y0 y1 y2)) ∧ (∀ y0 y1 y2 y3, LeO (spec_l09Ok.j1 k y0 y1 y2 y3) (spec_l09Ok.j1 (k + 1) y0 y1 y2 y3)) ∧ (∀ y0 y1 y2 y3, LeO (spec_l09Ok.l1 k y0 y1 y2 y3) (spec_l09Ok.l1 (k + 1) y0 y1 y2 y3))
 | 0 => ⟨fun _ _ _ r h => by simp [spec_l09Ok.l0] at h, fun _ _ _ _ r h => by simp [spec_l09Ok.j1] at h, fun _ _ _ _ r h => by simp [spec_l09Ok.l1] at h⟩
 | k + 1 => by
  obtain ⟨ih0, ih1, ih2⟩ := spec_l09Ok.mono_l k; refine ⟨?_, ?_, ?_⟩; (all_goals intros); (all_goals first | unfold spec_l09Ok.l0 | unfold spec_l09Ok.j1 | unfold spec_l09Ok.l1)
  all_goals repeat' first
   | (with_reducible exact ih0 _ _ _)
   | (with_reducible exact ih1 _ _ _ _)
   | (with_reducible exact ih2 _ _ _ _)
   | (with_reducible exact LeO.refl _)
   | (with_reducible exact LeO.none _)
   | (with_reducible refine LeO.ite ?_ ?_)
   | (with_reducible refine LeO.bind ?_ (fun _ => ?_))
   | exact ih0 _ _ _
   | exact ih1 _ _ _ _
   | exact ih2 _ _ _ _
   | exact LeO.none _
   | refine LeO.ite ?_ ?_
   | refine LeO.bind ?_ (fun _ => ?_)
theorem spec_l09Ok.mono : ∀ a0 a1 k, LeO (spec_l09Ok.f k a0 a1) (spec_l09Ok.f (k + 1) a0 a1) := by
 intro a0 a1 k; obtain ⟨ih0, ih1, ih2⟩ := spec_l09Ok.mono_l k; unfold spec_l09Ok.f
 repeat' first
   | (with_reducible exact ih0 _ _ _)
   | (with_reducible exact ih1 _ _ _ _)
   | (with_reducible exact ih2 _ _ _ _)
   | (with_reducible exact LeO.refl _)
   | (with_reducible exact LeO.none _)
   | (with_reducible refine LeO.ite ?_ ?_)
   | (with_reducible refine LeO.bind ?_ (fun _ => ?_))
   | exact ih0 _ _ _
   | exact ih1 _ _ _ _
   | exact ih2 _ _ _ _
   | exact LeO.none _
   | refine LeO.ite ?_ ?_
   | refine LeO.bind ?_ (fun _ => ?_)
set_option maxHeartbeats 8000000 in
set_option maxRecDepth 100000 in
theorem spec_l09Ok.calls (k : Nat) (a0 : Int) (A1 : Option Addr) (c1 : Nat) (l1 : List (S82)) (r : Bool) (w : World) (hr1 : Kd.C k82 w A1 l1.length l1) (hc1 : l1.length ≤ c1) (h : spec_l09Ok.f k a0 l1 = some r) :
  Calls Tryz.prog 57 #[.int .i64 a0, .slice A1 l1.length c1] w fun e w' => e = .returned (.bool r) ∧ Drawn0 w w' := by
 have hu82 := Tryz.underlying82; have HR1 := aa hr1; have HC1 := aa hc1; clear hr1 hc1; have H : ((spec_l00In.f a0 1 10).bind fun t242 => (if t242 = true then (spec_l09Ok.l0 k a0 l1 0) else (some false))) = some r := h; clear h; replace H := bf.mp H; obtain ⟨t242, A30, H⟩ := H; replace H : (if t242 = true then (spec_l09Ok.l0 k a0 l1 0) else (some false)) = some r := H; have A3 := aa A30; clear A30; by_cases c4 : t242 = true
 ·subst c4; (have H1 : (spec_l09Ok.l0 k a0 l1 0) = some r := by rw [if_pos rfl] at H; exact H); clear H; have H := H1; clear H1; have H' := aa H; clear H; go_enter Tryz.func57, Tryz.ntmps57
  go_wp2_with (first | (go_at_call 54; (with_reducible refine (spec_l00In.calls a0 1 10 true _ A3.out).mono ?_); rintro e w' ⟨rfl, ⟨nd, rfl⟩⟩; (try first | exact ⟨rfl, _, aj _ _ _⟩ | exact ⟨rfl, _, Eq.trans (aj _ _ _) (congrArg (World.drewN _) (Nat.add_assoc _ _ _))⟩)))
  repeat (go_quiet (first | (go_at_call 54; (with_reducible refine (spec_l00In.calls a0 1 10 true _ A3.out).mono ?_); rintro e w' ⟨rfl, ⟨nd, rfl⟩⟩; (try first | exact ⟨rfl, _, aj _ _ _⟩ | exact ⟨rfl, _, Eq.trans (aj _ _ _) (congrArg (World.drewN _) (Nat.add_assoc _ _ _))⟩))); try go_wp2_with (first | (go_at_call 54; (with_reducible refine (spec_l00In.calls a0 1 10 true _ A3.out).mono ?_); rintro e w' ⟨rfl, ⟨nd, rfl⟩⟩; (try first | exact ⟨rfl, _, aj _ _ _⟩ | exact ⟨rfl, _, Eq.trans (aj _ _ _) (congrArg (World.drewN _) (Nat.add_assoc _ _ _))⟩))))
  go_loopg [5] k (fun kq v5 w' => ∃ (x5_1 : Int), v5 = .int .i64 x5_1 ∧ Aside0 (spec_l09Ok.l0 kq a0 l1 x5_1 = some r) ∧ Aside0 (kq ≤ k) ∧ Drawn0 w w')
  case atStart => exact ⟨(0), (by first | rfl | (simp; done) | (simp [*]; done)), H', ⟨Nat.le_refl _⟩, by repeat (first | exact Drawn0.refl _ | apply Drawn0.step)⟩
  case round =>
   clear H'; (try clear c1); (try clear p2); (try clear c4); obtain ⟨x5_1, rfl, HA, HK1, ⟨m1, rfl⟩⟩ := hrel
   cases gk with
   | zero => exact absurd HA.out (by simp [spec_l09Ok.l0])
   | succ k1 =>
    have H := HA.out; clear HA; simp only [spec_l09Ok.l0] at H; by_cases c5 : x5_1 < (l1.length : Int)
    ·rw [if_pos c5] at H; have c5b0 : decide (x5_1 < (l1.length : Int)) = true := decide_eq_true c5; clear c5; have HC6 := aa H; clear H
     go_upto_region 6 with (fail)
     repeat (go_quiet (fail); go_upto_region 6 with (fail))
     go_cut [39] (fun v39 wc => ∃ (kq : Nat) (x39_5 : Bool), v39 = .bool x39_5 ∧ Aside0 (spec_l09Ok.j1 kq a0 l1 x5_1 x39_5 = some r) ∧ Aside0 (kq ≤ k1) ∧ Drawn0 w wc)
     case first =>
      have H := HC6.out; clear HC6; by_cases c7 : 0 ≤ x5_1
      ·rw [if_pos c7] at H; have c7b0 : decide (0 ≤ x5_1) = true := decide_eq_true c7; clear c7; (first | rw [c7b0] | (simp only [i64_w, i32_w]; rw [c7b0]) | skip); replace H := bf.mp H; obtain ⟨t244, A80, H⟩ := H; (try dsimp only at H); have A8 := aa A80; clear A80; by_cases c9 : t244 = true
       ·subst c9; have H1 := H; rw [if_pos rfl] at H1; clear H; have H := H1; clear H1; replace H := bf.mp H; obtain ⟨t247, A100, H⟩ := H; replace H : (spec_l09Ok.j1 k1 a0 l1 x5_1 (!t247)) = some r := H; have A10 := aa A100; clear A100; have H' := aa H; clear H; have p243 : 0 ≤ (x5_1 : Int) := of_decide_eq_true (by first | (with_reducible assumption) | assumption); have q243 : x5_1 < (l1.length : Int) := of_decide_eq_true (by first | (with_reducible assumption) | assumption); obtain ⟨ad243, e243, hx243_0, hx243_1⟩ := at_T82 HR1.out x5_1 p243 q243
        cases e243
        replace p243 := eq_true p243; replace q243 := eq_true q243
        go_wp2_with (first | (go_at_call 54; (with_reducible refine (spec_l00In.calls ((rd_T82 l1 x5_1).f1) 0 (wrap64 (a0 - 1)) true _ A8.out).mono ?_); rintro e w' ⟨rfl, ⟨nd, rfl⟩⟩; (try first | exact ⟨rfl, _, aj _ _ _⟩ | exact ⟨rfl, _, Eq.trans (aj _ _ _) (congrArg (World.drewN _) (Nat.add_assoc _ _ _))⟩); have p245 : 0 ≤ (x5_1 : Int) := of_decide_eq_true (by first | (with_reducible assumption) | assumption); have q245 : x5_1 < (l1.length : Int) := of_decide_eq_true (by first | (with_reducible assumption) | assumption); obtain ⟨ad245, e245, hx245_0, hx245_1⟩ := at_T82 HR1.out x5_1 p245 q245; obtain rfl : ad243 = ad245 := (by injection e245); replace p245 := eq_true p245; replace q245 := eq_true q245; have p246 : 0 ≤ (x5_1 : Int) := of_decide_eq_true (by first | (with_reducible assumption) | assumption); have q246 : x5_1 < (l1.length : Int) := of_decide_eq_true (by first | (with_reducible assumption) | assumption); obtain ⟨ad246, e246, hx246_0, hx246_1⟩ := at_T82 HR1.out x5_1 p246 q246; obtain rfl : ad243 = ad246 := (by injection e246); replace p246 := eq_true p246; replace q246 := eq_true q246) | (go_at_call 54; (with_reducible refine (spec_l00In.calls ((rd_T82 l1 x5_1).f0) 0 (wrap64 (((rd_T82 l1 x5_1).f1) - 1)) t247 _ A10.out).mono ?_); rintro e w' ⟨rfl, ⟨nd, rfl⟩⟩; (try first | exact ⟨rfl, _, aj _ _ _⟩ | exact ⟨rfl, _, Eq.trans (aj _ _ _) (congrArg (World.drewN _) (Nat.add_assoc _ _ _))⟩)))
        repeat (go_quiet (first | (go_at_call 54; (try simp only [Go.IntWalk.i64_left]); (with_reducible refine (spec_l00In.calls ((rd_T82 l1 x5_1).f1) 0 (wrap64 (a0 - 1)) true _ A8.out).mono ?_); rintro e w' ⟨rfl, ⟨nd, rfl⟩⟩; (try first | exact ⟨rfl, _, aj _ _ _⟩ | exact ⟨rfl, _, Eq.trans (aj _ _ _) (congrArg (World.drewN _) (Nat.add_assoc _ _ _))⟩); have p245 : 0 ≤ (x5_1 : Int) := of_decide_eq_true (by first | (with_reducible assumption) | assumption); have q245 : x5_1 < (l1.length : Int) := of_decide_eq_true (by first | (with_reducible assumption) | assumption); obtain ⟨ad245, e245, hx245_0, hx245_1⟩ := at_T82 HR1.out x5_1 p245 q245; obtain rfl : ad243 = ad245 := (by injection e245); replace p245 := eq_true p245; replace q245 := eq_true q245; have p246 : 0 ≤ (x5_1 : Int) := of_decide_eq_true (by first | (with_reducible assumption) | assumption); have q246 : x5_1 < (l1.length : Int) := of_decide_eq_true (by first | (with_reducible assumption) | assumption); obtain ⟨ad246, e246, hx246_0, hx246_1⟩ := at_T82 HR1.out x5_1 p246 q246; obtain rfl : ad243 = ad246 := (by injection e246); replace p246 := eq_true p246; replace q246 := eq_true q246) | (go_at_call 54; (try simp only [Go.IntWalk.i64_left]); (with_reducible refine (spec_l00In.calls ((rd_T82 l1 x5_1).f0) 0 (wrap64 (((rd_T82 l1 x5_1).f1) - 1)) t247 _ A10.out).mono ?_); rintro e w' ⟨rfl, ⟨nd, rfl⟩⟩; (try first | exact ⟨rfl, _, aj _ _ _⟩ | exact ⟨rfl, _, Eq.trans (aj _ _ _) (congrArg (World.drewN _) (Nat.add_assoc _ _ _))⟩))); try go_wp2)
        go_meet
        case rel => exact ⟨_, (!t247), (by first | rfl | (simp; done) | (simp [*]; done)), H', ⟨by have := HK1.out; first | omega | exact Nat.le_refl _⟩, by repeat (first | exact Drawn0.refl _ | apply Drawn0.step)⟩
       ·replace c9 := Bool.eq_false_iff.mpr c9; subst c9; (have H1 : (spec_l09Ok.j1 k1 a0 l1 x5_1 true) = some r := by rw [if_neg (show ¬ (false = true) by decide)] at H; exact H); clear H; have H := H1; clear H1; have H' := aa H; clear H; have p243 : 0 ≤ (x5_1 : Int) := of_decide_eq_true (by first | (with_reducible assumption) | assumption); have q243 : x5_1 < (l1.length : Int) := of_decide_eq_true (by first | (with_reducible assumption) | assumption); obtain ⟨ad243, e243, hx243_0, hx243_1⟩ := at_T82 HR1.out x5_1 p243 q243
        cases e243
        replace p243 := eq_true p243; replace q243 := eq_true q243
        go_wp2_with (first | (go_at_call 54; (with_reducible refine (spec_l00In.calls ((rd_T82 l1 x5_1).f1) 0 (wrap64 (a0 - 1)) false _ A8.out).mono ?_); rintro e w' ⟨rfl, ⟨nd, rfl⟩⟩; (try first | exact ⟨rfl, _, aj _ _ _⟩ | exact ⟨rfl, _, Eq.trans (aj _ _ _) (congrArg (World.drewN _) (Nat.add_assoc _ _ _))⟩)))
        repeat (go_quiet (first | (go_at_call 54; (try simp only [Go.IntWalk.i64_left]); (with_reducible refine (spec_l00In.calls ((rd_T82 l1 x5_1).f1) 0 (wrap64 (a0 - 1)) false _ A8.out).mono ?_); rintro e w' ⟨rfl, ⟨nd, rfl⟩⟩; (try first | exact ⟨rfl, _, aj _ _ _⟩ | exact ⟨rfl, _, Eq.trans (aj _ _ _) (congrArg (World.drewN _) (Nat.add_assoc _ _ _))⟩))); try go_wp2_with (first | (go_at_call 54; (try simp only [Go.IntWalk.i64_left]); (with_reducible refine (spec_l00In.calls ((rd_T82 l1 x5_1).f1) 0 (wrap64 (a0 - 1)) false _ A8.out).mono ?_); rintro e w' ⟨rfl, ⟨nd, rfl⟩⟩; (try first | exact ⟨rfl, _, aj _ _ _⟩ | exact ⟨rfl, _, Eq.trans (aj _ _ _) (congrArg (World.drewN _) (Nat.add_assoc _ _ _))⟩))))
        go_meet
        case rel => exact ⟨_, (true), (by first | rfl | (simp; done) | (simp [*]; done)), H', ⟨by have := HK1.out; first | omega | exact Nat.le_refl _⟩, by repeat (first | exact Drawn0.refl _ | apply Drawn0.step)⟩
      ·rw [if_neg c7] at H; exact absurd H (by simp)
     case rest =>
      clear HC6; (try clear c1); (try clear p2); (try clear q2); (try clear hx2); (try clear c4); (try clear c5); (try clear c5b0); (try clear p6); (try clear c7); (try clear c7b0); (try clear c9); (try clear hx243_0); (try clear hx243_1); (try clear hx245_0); (try clear hx245_1); (try clear hx246_0); (try clear hx246_1); (try clear p2); (try clear p243); (try clear p245); (try clear p246); (try clear q243); (try clear q245); (try clear q246); obtain ⟨kq, x39_5, rfl, HA, HJ5, ⟨mc5, rfl⟩⟩ := hcut
      cases kq with
      | zero => exact absurd HA.out (by simp [spec_l09Ok.j1])
      | succ kj5 =>
       have H := HA.out; clear HA; simp only [spec_l09Ok.j1] at H; by_cases c11 : x39_5 = true
       ·subst c11; (have H1 : (some false) = some r := by rw [if_pos rfl] at H; exact H); clear H; have H := H1; clear H1; obtain rfl := Option.some.inj H; go_wp2; (repeat (go_quiet (fail); try go_wp2)); go_ret; exact ⟨by first | rfl | (simp; done) | (simp [*]; done), by repeat (first | exact Drawn0.refl _ | apply Drawn0.step)⟩
       ·replace c11 := Bool.eq_false_iff.mpr c11; subst c11; (have H1 : (spec_l09Ok.l1 kj5 a0 l1 x5_1 0) = some r := by rw [if_neg (show ¬ (false = true) by decide)] at H; exact H); clear H; have H := H1; clear H1; have H' := aa H; clear H; go_wp2; (repeat (go_quiet (fail); try go_wp2))
        go_loopg [6] kj5 (fun kq v6 w' => ∃ (x6_3 : Int), v6 = .int .i64 x6_3 ∧ Aside0 (spec_l09Ok.l1 kq a0 l1 x5_1 x6_3 = some r) ∧ Aside0 (kq ≤ kj5) ∧ Drawn0 w w')
        case atStart => exact ⟨(0), (by first | rfl | (simp; done) | (simp [*]; done)), H', ⟨Nat.le_refl _⟩, by repeat (first | exact Drawn0.refl _ | apply Drawn0.step)⟩
        case round =>
         clear H'; (try clear c1); (try clear p2); (try clear q2); (try clear hx2); (try clear c4); (try clear c5); (try clear c5b0); (try clear p6); (try clear c7); (try clear c7b0); (try clear c9); (try clear c11); (try clear hx243_0); (try clear hx243_1); (try clear hx245_0); (try clear hx245_1); (try clear hx246_0); (try clear hx246_1); (try clear p2); (try clear p243); (try clear p245); (try clear p246); (try clear p6); (try clear q2); (try clear q243); (try clear q245); (try clear q246); obtain ⟨x6_3, rfl, HA, HK3, ⟨m3, rfl⟩⟩ := hrel
         cases gk with
         | zero => exact absurd HA.out (by simp [spec_l09Ok.l1])
         | succ k3 =>
          have H := HA.out; clear HA; simp only [spec_l09Ok.l1] at H; by_cases c12 : x6_3 < x5_1
          ·rw [if_pos c12] at H; have c12b0 : decide (x6_3 < x5_1) = true := decide_eq_true c12; clear c12; by_cases c13 : 0 ≤ x6_3
           ·rw [if_pos c13] at H; have c13b0 : decide (0 ≤ x6_3) = true := decide_eq_true c13; clear c13; by_cases c14 : x6_3 < (l1.length : Int)
            ·rw [if_pos c14] at H; have c14b0 : decide (x6_3 < (l1.length : Int)) = true := decide_eq_true c14; clear c14; by_cases c15 : 0 ≤ x5_1
             ·rw [if_pos c15] at H; have c15b0 : decide (0 ≤ x5_1) = true := decide_eq_true c15; clear c15; by_cases c16 : x5_1 < (l1.length : Int)
              ·rw [if_pos c16] at H; have c16b0 : decide (x5_1 < (l1.length : Int)) = true := decide_eq_true c16; clear c16; by_cases c17 : (((rd_T82 l1 x6_3).f0) == ((rd_T82 l1 x5_1).f0) && (((rd_T82 l1 x6_3).f1) == ((rd_T82 l1 x5_1).f1))) = true
               ·rw [if_pos c17] at H; have c17b0 : (((rd_T82 l1 x6_3).f0) == ((rd_T82 l1 x5_1).f0) && (((rd_T82 l1 x6_3).f1) == ((rd_T82 l1 x5_1).f1))) = true := c17; (try (have c17b1 : decide (((rd_T82 l1 x6_3).f0) = ((rd_T82 l1 x5_1).f0) && (((rd_T82 l1 x6_3).f1) == ((rd_T82 l1 x5_1).f1))) = true := by simpa using c17)); (try (have c17b2 : (((rd_T82 l1 x6_3).f0) == ((rd_T82 l1 x5_1).f0) && (((rd_T82 l1 x6_3).f1) == ((rd_T82 l1 x5_1).f1))) = true := by simpa using c17)); clear c17; obtain rfl := Option.some.inj H; have p248 : 0 ≤ (x6_3 : Int) := of_decide_eq_true (by first | (with_reducible assumption) | assumption); have q248 : x6_3 < (l1.length : Int) := of_decide_eq_true (by first | (with_reducible assumption) | assumption); obtain ⟨ad248, e248, hx248_0, hx248_1⟩ := at_T82 HR1.out x6_3 p248 q248
                cases e248
                replace p248 := eq_true p248; replace q248 := eq_true q248; have p249 : 0 ≤ (x5_1 : Int) := of_decide_eq_true (by first | (with_reducible assumption) | assumption); have q249 : x5_1 < (l1.length : Int) := of_decide_eq_true (by first | (with_reducible assumption) | assumption); obtain ⟨ad249, e249, hx249_0, hx249_1⟩ := at_T82 HR1.out x5_1 p249 q249; obtain rfl : ad248 = ad249 := (by injection e249); replace p249 := eq_true p249; replace q249 := eq_true q249; go_wp2; (repeat (go_quiet (fail); try go_wp2)); go_ret; exact ⟨by first | rfl | (simp; done) | (simp [*]; done), by repeat (first | exact Drawn0.refl _ | apply Drawn0.step)⟩
               ·rw [if_neg c17] at H; (have c17b0 : (((rd_T82 l1 x6_3).f0) == ((rd_T82 l1 x5_1).f0) && (((rd_T82 l1 x6_3).f1) == ((rd_T82 l1 x5_1).f1))) = false := by simpa using c17); (try (have c17b1 : decide (((rd_T82 l1 x6_3).f0) = ((rd_T82 l1 x5_1).f0) && (((rd_T82 l1 x6_3).f1) == ((rd_T82 l1 x5_1).f1))) = false := by simpa using c17)); (try (have c17b2 : (((rd_T82 l1 x6_3).f0) == ((rd_T82 l1 x5_1).f0) && (((rd_T82 l1 x6_3).f1) == ((rd_T82 l1 x5_1).f1))) = false := by simpa using c17)); (try (have c17b3 : ¬ (((rd_T82 l1 x6_3).f0) = ((rd_T82 l1 x5_1).f0) && (((rd_T82 l1 x6_3).f1) == ((rd_T82 l1 x5_1).f1))) := by simpa using c17)); clear c17; have H' := aa H; clear H; have p248 : 0 ≤ (x6_3 : Int) := of_decide_eq_true (by first | (with_reducible assumption) | assumption); have q248 : x6_3 < (l1.length : Int) := of_decide_eq_true (by first | (with_reducible assumption) | assumption); obtain ⟨ad248, e248, hx248_0, hx248_1⟩ := at_T82 HR1.out x6_3 p248 q248
                cases e248
                replace p248 := eq_true p248; replace q248 := eq_true q248; have p249 : 0 ≤ (x5_1 : Int) := of_decide_eq_true (by first | (with_reducible assumption) | assumption); have q249 : x5_1 < (l1.length : Int) := of_decide_eq_true (by first | (with_reducible assumption) | assumption); obtain ⟨ad249, e249, hx249_0, hx249_1⟩ := at_T82 HR1.out x5_1 p249 q249; obtain rfl : ad248 = ad249 := (by injection e249); replace p249 := eq_true p249; replace q249 := eq_true q249; go_wp2; (repeat (go_quiet (fail); try go_wp2)); go_roundg k3
                case measure => have := HK1.out; have := HJ5.out; have := HK3.out; omega
                case rel => exact ⟨(wrap64 (x6_3 + 1)), (by first | rfl | (simp; done) | (simp [*]; done)), H', ⟨by have := HK1.out; have := HJ5.out; have := HK3.out; omega⟩, by repeat (first | exact Drawn0.refl _ | apply Drawn0.step)⟩
              ·rw [if_neg c16] at H; exact absurd H (by simp)
             ·rw [if_neg c15] at H; exact absurd H (by simp)
            ·rw [if_neg c14] at H; exact absurd H (by simp)
           ·rw [if_neg c13] at H; exact absurd H (by simp)
          ·rw [if_neg c12] at H; have c12b0 : decide (x6_3 < x5_1) = false := decide_eq_false c12; clear c12; have H' := aa H; clear H; go_wp2; (repeat (go_quiet (fail); try go_wp2)); go_roundg k3
           case measure => have := HK1.out; have := HJ5.out; have := HK3.out; omega
           case rel => exact ⟨(wrap64 (x5_1 + 1)), (by first | rfl | (simp; done) | (simp [*]; done)), H', ⟨by have := HK1.out; have := HJ5.out; have := HK3.out; omega⟩, by repeat (first | exact Drawn0.refl _ | apply Drawn0.step)⟩
    ·rw [if_neg c5] at H; have c5b0 : decide (x5_1 < (l1.length : Int)) = false := decide_eq_false c5; clear c5; obtain rfl := Option.some.inj H; go_wp2; (repeat (go_quiet (fail); try go_wp2)); go_ret; exact ⟨by first | rfl | (simp; done) | (simp [*]; done), by repeat (first | exact Drawn0.refl _ | apply Drawn0.step)⟩
 ·replace c4 := Bool.eq_false_iff.mpr c4; subst c4; (have H1 : (some false) = some r := by rw [if_neg (show ¬ (false = true) by decide)] at H; exact H); clear H; have H := H1; clear H1; obtain rfl := Option.some.inj H; go_enter Tryz.func57, Tryz.ntmps57
  go_wp2_with (first | (go_at_call 54; (with_reducible refine (spec_l00In.calls a0 1 10 false _ A3.out).mono ?_); rintro e w' ⟨rfl, ⟨nd, rfl⟩⟩; (try first | exact ⟨rfl, _, aj _ _ _⟩ | exact ⟨rfl, _, Eq.trans (aj _ _ _) (congrArg (World.drewN _) (Nat.add_assoc _ _ _))⟩)))
  (repeat (go_quiet (first | (go_at_call 54; (with_reducible refine (spec_l00In.calls a0 1 10 false _ A3.out).mono ?_); rintro e w' ⟨rfl, ⟨nd, rfl⟩⟩; (try first | exact ⟨rfl, _, aj _ _ _⟩ | exact ⟨rfl, _, Eq.trans (aj _ _ _) (congrArg (World.drewN _) (Nat.add_assoc _ _ _))⟩))); try go_wp2_with (first | (go_at_call 54; (with_reducible refine (spec_l00In.calls a0 1 10 false _ A3.out).mono ?_); rintro e w' ⟨rfl, ⟨nd, rfl⟩⟩; (try first | exact ⟨rfl, _, aj _ _ _⟩ | exact ⟨rfl, _, Eq.trans (aj _ _ _) (congrArg (World.drewN _) (Nat.add_assoc _ _ _))⟩))))); go_ret; exact ⟨by first | rfl | (simp; done) | (simp [*]; done), by repeat (first | exact Drawn0.refl _ | apply Drawn0.step)⟩
def spec_l09Code.f (k : Nat) (a0 : Int) (l1 : List (S82)) (a2 : Int) : Option (Int) := (spec_l09Ok.f k a0 l1).bind fun t250 => (if t250 = true then ((spec_l00In.f a2 1 6).bind fun t251 => (if t251 = true then (some 0) else (some 2))) else (some 1))
theorem spec_l09Code.mono : ∀ a0 a1 a2 k, LeO (spec_l09Code.f k a0 a1 a2) (spec_l09Code.f (k + 1) a0 a1 a2) := by
 intro a0 a1 a2 k; unfold spec_l09Code.f
 repeat' first
   | (with_reducible exact spec_l09Ok.mono _ _ _)
   | (with_reducible exact LeO.refl _)
   | (with_reducible exact LeO.none _)
   | (with_reducible refine LeO.ite ?_ ?_)
   | (with_reducible refine LeO.bind ?_ (fun _ => ?_))
   | exact spec_l09Ok.mono _ _ _
   | exact LeO.none _
   | refine LeO.ite ?_ ?_
   | refine LeO.bind ?_ (fun _ => ?_)
set_option maxHeartbeats 8000000 in
set_option maxRecDepth 100000 in
theorem spec_l09Code.calls (k : Nat) (a0 : Int) (A1 : Option Addr) (c1 : Nat) (l1 : List (S82)) (a2 : Int) (r : Int) (w : World) (hr1 : Kd.C k82 w A1 l1.length l1) (hc1 : l1.length ≤ c1) (h : spec_l09Code.f k a0 l1 a2 = some r) :
  Calls Tryz.prog 45 #[.int .i64 a0, .slice A1 l1.length c1, .int .i64 a2] w fun e w' => e = .returned (.int .i64 r) ∧ Drawn0 w w' := by
 have HR1 := aa hr1; have HC1 := aa hc1; clear hr1 hc1; have H : ((spec_l09Ok.f k a0 l1).bind fun t250 => (if t250 = true then ((spec_l00In.f a2 1 6).bind fun t251 => (if t251 = true then (some 0) else (some 2))) else (some 1))) = some r := h; clear h; replace H := bf.mp H; obtain ⟨t250, A40, H⟩ := H; (try dsimp only at H); have A4 := aa A40; clear A40; by_cases c5 : t250 = true
 ·subst c5; (have H1 : ((spec_l00In.f a2 1 6).bind fun t251 => (if t251 = true then (some 0) else (some 2))) = some r := by rw [if_pos rfl] at H; exact H); clear H; have H := H1; clear H1; replace H := bf.mp H; obtain ⟨t251, A60, H⟩ := H; replace H : (if t251 = true then (some 0) else (some 2)) = some r := H; have A6 := aa A60; clear A60; by_cases c7 : t251 = true
  ·subst c7; (have H1 : (some 0) = some r := by rw [if_pos rfl] at H; exact H); clear H; have H := H1; clear H1; obtain rfl := Option.some.inj H; go_enter Tryz.func45, Tryz.ntmps45
   go_wp2_with (first | ((with_reducible refine gate_callee (f := 57) rfl ?_); refine goesL_ (some 9) rfl rfl Tryz.func57 (by kernel_rfl) rfl #[.int .i64 a0, .slice A1 l1.length c1] rfl (by (try simp only [b3, b4, b5]); first | done | rfl | (simp only [b0, b2]; rfl)) ?_; (with_reducible refine (spec_l09Ok.calls k a0 _ _ l1 true _ ?side1 ?side2 A4.out).mono ?_); (case side1 => repeat (first | exact HR1.out | (with_reducible refine ar ?_ _) | (with_reducible refine au ?_ _) | (with_reducible refine av ?_))); (case side2 => exact HC1.out); rintro e w' ⟨rfl, ⟨nd, rfl⟩⟩; refine ⟨_, rfl, ?_⟩) | ((with_reducible refine gate_callee (f := 54) rfl ?_); refine goesL_ (some 12) rfl rfl Tryz.func54 (by kernel_rfl) rfl #[.int .i64 a2, .int .i64 1, .int .i64 6] rfl (by (try simp only [b3, b4, b5]); first | done | rfl | (simp only [b0, b2]; rfl)) ?_; (with_reducible refine (spec_l00In.calls a2 1 6 true _ A6.out).mono ?_); rintro e w' ⟨rfl, ⟨nd, rfl⟩⟩; refine ⟨_, rfl, ?_⟩))
   go_ret; exact ⟨by first | rfl | (simp; done) | (simp [*]; done), by repeat (first | exact Drawn0.refl _ | apply Drawn0.step)⟩
  ·replace c7 := Bool.eq_false_iff.mpr c7; subst c7; (have H1 : (some 2) = some r := by rw [if_neg (show ¬ (false = true) by decide)] at H; exact H); clear H; have H := H1; clear H1; obtain rfl := Option.some.inj H; go_enter Tryz.func45, Tryz.ntmps45
   go_wp2_with (first | ((with_reducible refine gate_callee (f := 57) rfl ?_); refine goesL_ (some 9) rfl rfl Tryz.func57 (by kernel_rfl) rfl #[.int .i64 a0, .slice A1 l1.length c1] rfl (by (try simp only [b3, b4, b5]); first | done | rfl | (simp only [b0, b2]; rfl)) ?_; (with_reducible refine (spec_l09Ok.calls k a0 _ _ l1 true _ ?side1 ?side2 A4.out).mono ?_); (case side1 => repeat (first | exact HR1.out | (with_reducible refine ar ?_ _) | (with_reducible refine au ?_ _) | (with_reducible refine av ?_))); (case side2 => exact HC1.out); rintro e w' ⟨rfl, ⟨nd, rfl⟩⟩; refine ⟨_, rfl, ?_⟩) | ((with_reducible refine gate_callee (f := 54) rfl ?_); refine goesL_ (some 12) rfl rfl Tryz.func54 (by kernel_rfl) rfl #[.int .i64 a2, .int .i64 1, .int .i64 6] rfl (by (try simp only [b3, b4, b5]); first | done | rfl | (simp only [b0, b2]; rfl)) ?_; (with_reducible refine (spec_l00In.calls a2 1 6 false _ A6.out).mono ?_); rintro e w' ⟨rfl, ⟨nd, rfl⟩⟩; refine ⟨_, rfl, ?_⟩))
   go_ret; exact ⟨by first | rfl | (simp; done) | (simp [*]; done), by repeat (first | exact Drawn0.refl _ | apply Drawn0.step)⟩
 ·replace c5 := Bool.eq_false_iff.mpr c5; subst c5; (have H1 : (some 1) = some r := by rw [if_neg (show ¬ (false = true) by decide)] at H; exact H); clear H; have H := H1; clear H1; obtain rfl := Option.some.inj H; go_enter Tryz.func45, Tryz.ntmps45
  go_wp2_with (first | ((with_reducible refine gate_callee (f := 57) rfl ?_); refine goesL_ (some 9) rfl rfl Tryz.func57 (by kernel_rfl) rfl #[.int .i64 a0, .slice A1 l1.length c1] rfl (by (try simp only [b3, b4, b5]); first | done | rfl | (simp only [b0, b2]; rfl)) ?_; (with_reducible refine (spec_l09Ok.calls k a0 _ _ l1 false _ ?side1 ?side2 A4.out).mono ?_); (case side1 => repeat (first | exact HR1.out | (with_reducible refine ar ?_ _) | (with_reducible refine au ?_ _) | (with_reducible refine av ?_))); (case side2 => exact HC1.out); rintro e w' ⟨rfl, ⟨nd, rfl⟩⟩; refine ⟨_, rfl, ?_⟩))
  go_ret; exact ⟨by first | rfl | (simp; done) | (simp [*]; done), by repeat (first | exact Drawn0.refl _ | apply Drawn0.step)⟩
end Go.Proofs.YtmgljagkmaoopaaGreat.QFnTopOfAll
