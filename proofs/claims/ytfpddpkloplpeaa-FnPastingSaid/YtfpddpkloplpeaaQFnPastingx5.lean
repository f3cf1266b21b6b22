/- Walks of the Go functions that the law FnPasting reaches: written by a program of this session. -/
import Derived.Test.YtfpddpkloplpeaaQFnPastingx0
import Derived.Test.YtfpddpkloplpeaaQFnPastingx1
import Derived.Test.YtfpddpkloplpeaaQFnPastingx2
import Derived.Test.YtfpddpkloplpeaaQFnPastingx3
import Derived.Test.YtfpddpkloplpeaaQFnPastingx4
namespace Go.Proofs.Ytfpddpkloplpeaa.QFnPasting
open Go.RowKit Go.Proofs.YtfpddpkloplpeaaW.PrintWords Go.Proofs.YtfpddpkloplpeaaW.PrintLast Go.Proofs.YtfpddpkloplpeaaW.PrintMore
attribute [local go_sem] max2_int min2_int max_two min_two max_three min_three max_four min_four   -- for this text's walks alone
set_option linter.unusedVariables false
set_option linter.unusedSimpArgs false

/-! ### impl_QuickOrder: function 19 -/
/-- What visits an order; what puts the next gore. Their boxes stand at fixed places behind the call's begin. -/
def visF (w0 : World) : Value := .func (.func 45) #[] #[.pointer (some ⟨w0.heap.size, 0, none⟩), .pointer (some ⟨w0.heap.size + 1, 0, none⟩), .pointer (some ⟨w0.heap.size + 4, 0, none⟩), .pointer (some ⟨w0.heap.size + 3, 0, none⟩)]
def putF (w0 : World) : Value := .func (.func 67) #[] #[.pointer (some ⟨w0.heap.size + 8, 0, none⟩), .pointer (some ⟨w0.heap.size + 5, 0, none⟩), .pointer (some ⟨w0.heap.size + 6, 0, none⟩), .pointer (some ⟨w0.heap.size + 9, 0, none⟩)]
def okI (s k : Nat) : Prop := k ≠ s ∧ k ≠ s + 1 ∧ k ≠ s + 3 ∧ k ≠ s + 4 ∧ k ≠ s + 5 ∧ k ≠ s + 6 ∧ k ≠ s + 8 ∧ k ≠ s + 9
def IQ (w0 W : World) (vO vB : Value) (n e d : Int) (o b : List Int) (t : Int) : Prop := (W.heap[w0.heap.size]? = some (.cells #[.int .i64 e] 2 (0, 0)) ∧ W.heap[w0.heap.size + 1]? = some (.cells #[.int .i64 d] 2 (0, 0)) ∧ W.heap[w0.heap.size + 3]? = some (.cells #[vB] 25 (0, 0)) ∧ W.heap[w0.heap.size + 4]? = some (.cells #[.int .i64 t] 2 (0, 0)) ∧ W.heap[w0.heap.size + 5]? = some (.cells #[.int .i64 n] 2 (0, 0)) ∧ W.heap[w0.heap.size + 6]? = some (.cells #[visF w0] 55 (0, 0)) ∧ W.heap[w0.heap.size + 8]? = some (.cells #[vO] 25 (0, 0)) ∧ W.heap[w0.heap.size + 9]? = some (.cells #[putF w0] 1 (0, 0))) ∧ Kd.R (Kd.int .i64) 2 W w0.heap.size (okI w0.heap.size) vO o ∧ Kd.R (Kd.int .i64) 2 W w0.heap.size (fun k => okI w0.heap.size k ∧ some k ≠ vO.ownBlock) vB b ∧ Below w0.heap.size w0 W
def IS (w0 W : World) (n e d : Int) (o b : List Int) (t : Int) : Prop := ∃ vO vB : Value, IQ w0 W vO vB n e d o b t
theorem IQ.below {w0 W W1 : World} {vO vB : Value} {n e d : Int} {o b : List Int} {t : Int} (h : IQ w0 W vO vB n e d o b t) (hb1 : Below W.heap.size W W1) : IQ w0 W1 vO vB n e d o b t := by
  obtain ⟨⟨b0, b1, b3, b4, b5, b6, b8, b9⟩, hO, hB, hb⟩ := h
  exact ⟨⟨blk_below b0 hb1, blk_below b1 hb1, blk_below b3 hb1, blk_below b4 hb1, blk_below b5 hb1, blk_below b6 hb1, blk_below b8 hb1, blk_below b9 hb1⟩, Kd.R_below hO hb1, Kd.R_below hB hb1, below_then hb hb.size hb1⟩
theorem IS.below {w0 W W1 : World} {n e d : Int} {o b : List Int} {t : Int} (h : IS w0 W n e d o b t) (hb1 : Below W.heap.size W W1) : IS w0 W1 n e d o b t := by
  obtain ⟨vO, vB, h⟩ := h
  exact ⟨vO, vB, h.below hb1⟩
theorem IS.drew {w0 W : World} {n e d : Int} {o b : List Int} {t : Int} (h : IS w0 W n e d o b t) : IS w0 W.drew n e d o b t := h.below (below_drew (Below.refl _ _))
theorem IS.drewN {w0 W : World} {n e d : Int} {o b : List Int} {t : Int} (h : IS w0 W n e d o b t) (q : Nat) : IS w0 (W.drewN q) n e d o b t := h.below (pw_below_drewN (Below.refl _ _) q)
/-- Another best order, one that was made just now. -/
theorem IS.found {w0 W W1 : World} {n e d : Int} {o b : List Int} {t t' : Int} {y : List Int} {vN : Value} (h : IS w0 W n e d o b t) (hN : Kd.R (Kd.int .i64) 2 W1 W.heap.size (fun _ => True) vN y) (hb1 : Below W.heap.size W W1) : IS w0 ((W1.setCell ⟨w0.heap.size + 3, 0, none⟩ vN).setCell ⟨w0.heap.size + 4, 0, none⟩ (.int .i64 t')) n e d o y t' := by
  obtain ⟨vO, vB, ⟨⟨b0, b1, b3, b4, b5, b6, b8, b9⟩, hO, hB, hb⟩⟩ := h
  have hl := blk_lt b9
  have hn : Kd.R (Kd.int .i64) 2 W1 w0.heap.size (fun k => okI w0.heap.size k ∧ some k ≠ vO.ownBlock) vN y :=
    Kd.R_mono (Kd.R_lower (Kd.R_bound (Kd.R_new' (u := vO) hN (Kd.R_lt hO))) hb.size) (fun k hk => by
      have h1 := hk.2.1
      refine ⟨?_, hk.1.2⟩
      unfold okI
      omega)
  exact ⟨vO, vN, ⟨blk_far (blk_far (blk_below b0 hb1) (by intro e_; dsimp only at e_; omega) _) (by intro e_; dsimp only at e_; omega) _, blk_far (blk_far (blk_below b1 hb1) (by intro e_; dsimp only at e_; omega) _) (by intro e_; dsimp only at e_; omega) _, blk_far (blk_put (blk_below b3 hb1) 0 _ rfl) (by intro e_; dsimp only at e_; omega) _, blk_put (blk_far (blk_below b4 hb1) (by intro e_; dsimp only at e_; omega) _) 0 _ rfl, blk_far (blk_far (blk_below b5 hb1) (by intro e_; dsimp only at e_; omega) _) (by intro e_; dsimp only at e_; omega) _, blk_far (blk_far (blk_below b6 hb1) (by intro e_; dsimp only at e_; omega) _) (by intro e_; dsimp only at e_; omega) _, blk_far (blk_far (blk_below b8 hb1) (by intro e_; dsimp only at e_; omega) _) (by intro e_; dsimp only at e_; omega) _, blk_far (blk_far (blk_below b9 hb1) (by intro e_; dsimp only at e_; omega) _) (by intro e_; dsimp only at e_; omega) _⟩, Kd.R_far (Kd.R_far (Kd.R_below hO hb1) (fun k hk => hk.2.2.1) _) (fun k hk => hk.2.2.2.1) _, Kd.R_far (Kd.R_far hn (fun k hk => hk.1.2.2.1) _) (fun k hk => hk.1.2.2.2.1) _, ((below_then hb hb.size hb1).setCell (by show _ ≤ _ + 3; omega) _).setCell (by show _ ≤ _ + 4; omega) _⟩
/-- The order grows. -/
theorem IQ.grown {w0 W W1 : World} {n e d : Int} {o b : List Int} {t x : Int} {vO vB v1 : Value} (h : IQ w0 W vO vB n e d o b t)
    (ho : Kd.R (Kd.int .i64) 2 W1 w0.heap.size (okI w0.heap.size) v1 (o ++ [x])) (hb1 : Below w0.heap.size w0 W1) (hg : W.grownBy W1 vO.ownBlock) (hat : v1.ownBlock = vO.ownBlock ∨ ∃ b, v1.ownBlock = some b ∧ W.heap.size ≤ b) : IS w0 (W1.setCell ⟨w0.heap.size + 8, 0, none⟩ v1) n e d (o ++ [x]) b t := by
  obtain ⟨⟨b0, b1, b3, b4, b5, b6, b8, b9⟩, hO, hB, hb⟩ := h
  exact ⟨v1, vB, ⟨blk_far (blk_grown b0 hg (fun e => by have := hO.1 _ e.symm; unfold okI at this; omega)) (by intro e_; dsimp only at e_; omega) _, blk_far (blk_grown b1 hg (fun e => by have := hO.1 _ e.symm; unfold okI at this; omega)) (by intro e_; dsimp only at e_; omega) _, blk_far (blk_grown b3 hg (fun e => by have := hO.1 _ e.symm; unfold okI at this; omega)) (by intro e_; dsimp only at e_; omega) _, blk_far (blk_grown b4 hg (fun e => by have := hO.1 _ e.symm; unfold okI at this; omega)) (by intro e_; dsimp only at e_; omega) _, blk_far (blk_grown b5 hg (fun e => by have := hO.1 _ e.symm; unfold okI at this; omega)) (by intro e_; dsimp only at e_; omega) _, blk_far (blk_grown b6 hg (fun e => by have := hO.1 _ e.symm; unfold okI at this; omega)) (by intro e_; dsimp only at e_; omega) _, blk_put (blk_grown b8 hg (fun e => by have := hO.1 _ e.symm; unfold okI at this; omega)) 0 _ rfl, blk_far (blk_grown b9 hg (fun e => by have := hO.1 _ e.symm; unfold okI at this; omega)) (by intro e_; dsimp only at e_; omega) _⟩, Kd.R_far ho (fun k hk => hk.2.2.2.2.2.2.1) _, Kd.R_far (Kd.R_after hB hg hat) (fun k hk => hk.1.2.2.2.2.2.2.1) _, hb1.setCell (by show _ ≤ _ + 8; omega) _⟩
/-- The order is what it was. -/
theorem IQ.back {w0 W : World} {n e d : Int} {o b : List Int} {t x : Int} {A : Option Addr} {m c : Nat} {vB : Value} (h : IQ w0 W (.slice A m c) vB n e d (o ++ [x]) b t) : IS w0 (W.setCell ⟨w0.heap.size + 8, 0, none⟩ (.slice A o.length c)) n e d o b t := by
  obtain ⟨⟨b0, b1, b3, b4, b5, b6, b8, b9⟩, hO, hB, hb⟩ := h
  have ht := Kd.R_take (m := o.length) hO (by simp)
  rw [List.take_left' rfl] at ht
  have he : (Value.slice A m c).ownBlock = (Value.slice A o.length c).ownBlock := by cases A <;> rfl
  rw [he] at hB
  exact ⟨_, vB, ⟨blk_far b0 (by intro e_; dsimp only at e_; omega) _, blk_far b1 (by intro e_; dsimp only at e_; omega) _, blk_far b3 (by intro e_; dsimp only at e_; omega) _, blk_far b4 (by intro e_; dsimp only at e_; omega) _, blk_far b5 (by intro e_; dsimp only at e_; omega) _, blk_far b6 (by intro e_; dsimp only at e_; omega) _, blk_put b8 0 _ rfl, blk_far b9 (by intro e_; dsimp only at e_; omega) _⟩, Kd.R_far ht (fun k hk => hk.2.2.2.2.2.2.1) _, Kd.R_far hB (fun k hk => hk.1.2.2.2.2.2.2.1) _, hb.setCell (by show _ ≤ _ + 8; omega) _⟩
/-- What the walk reads. -/
theorem IS.opened {w0 W : World} {n e d : Int} {o b : List Int} {t : Int} (h : IS w0 W n e d o b t) : ∃ (A : Option Addr) (c : Nat) (A2 : Option Addr) (c2 : Nat), (W.cell? ⟨w0.heap.size, 0, none⟩ = some (.int .i64 e) ∧ W.cell? ⟨w0.heap.size + 1, 0, none⟩ = some (.int .i64 d) ∧ W.cell? ⟨w0.heap.size + 3, 0, none⟩ = some (.slice A2 b.length c2) ∧ W.cell? ⟨w0.heap.size + 4, 0, none⟩ = some (.int .i64 t) ∧ W.cell? ⟨w0.heap.size + 5, 0, none⟩ = some (.int .i64 n) ∧ W.cell? ⟨w0.heap.size + 6, 0, none⟩ = some (visF w0) ∧ W.cell? ⟨w0.heap.size + 8, 0, none⟩ = some (.slice A o.length c) ∧ W.cell? ⟨w0.heap.size + 9, 0, none⟩ = some (putF w0)) ∧ (W.frozen? ⟨w0.heap.size + 3, 0, none⟩ = false ∧ W.frozen? ⟨w0.heap.size + 4, 0, none⟩ = false ∧ W.frozen? ⟨w0.heap.size + 8, 0, none⟩ = false) ∧ Aside0 (Kd.C (Kd.int .i64) W A o.length o) ∧ Aside0 (o.length ≤ c) ∧ Aside0 (IQ w0 W (.slice A o.length c) (.slice A2 b.length c2) n e d o b t) := by
  obtain ⟨vO, vB, h⟩ := h
  have h0 := h
  obtain ⟨⟨b0, b1, b3, b4, b5, b6, b8, b9⟩, hO, hB, hb⟩ := h
  obtain ⟨A, c, rfl, hc, hC⟩ := Kd.R_reads hO
  obtain ⟨A2, c2, rfl, _, _⟩ := Kd.R_reads hB
  exact ⟨A, c, A2, c2, ⟨(blk_cell b0 0).trans rfl, (blk_cell b1 0).trans rfl, (blk_cell b3 0).trans rfl, (blk_cell b4 0).trans rfl, (blk_cell b5 0).trans rfl, (blk_cell b6 0).trans rfl, (blk_cell b8 0).trans rfl, (blk_cell b9 0).trans rfl⟩, ⟨blk_frozen b3 0, blk_frozen b4 0, blk_frozen b8 0⟩, ⟨hC⟩, ⟨hc⟩, ⟨h0⟩⟩
def iq_visit (k : Nat) (e d : Int) (o b : List Int) (t : Int) : Option (List Int × Int) := (impl_endOfPasting.f k o e d).bind fun x => if t < 0 then ((slices_Clone_int64_int64.f o).bind fun y => some (y, x)) else (if x < t then ((slices_Clone_int64_int64.f o).bind fun y => some (y, x)) else some (b, t))
mutual
def iq_put : Nat → Int → Int → Int → List Int → List Int → Int → Option (List Int × Int)
  | 0, _, _, _, _, _, _ => none
  | k + 1, n, e, d, o, b, t => if (o.length : Int) = n then ((iq_visit k e d o b t).bind fun r => iq_loop k n e d o r.1 r.2 0) else iq_loop k n e d o b t 0
def iq_loop : Nat → Int → Int → Int → List Int → List Int → Int → Int → Option (List Int × Int)
  | 0, _, _, _, _, _, _, _ => none
  | k + 1, n, e, d, o, b, t, g => if g < n then ((slices_Contains_int64_int64.f k o g).bind fun h => if h = true then iq_loop k n e d o b t (wrap64 (g + 1)) else (if o.length < 1000 then ((iq_put k n e d (o ++ [g]) b t).bind fun r => iq_loop k n e d o r.1 r.2 (wrap64 (g + 1))) else none)) else some (b, t)
end
theorem iq_visit_mono (k : Nat) (e d : Int) (o b : List Int) (t : Int) : LeO (iq_visit k e d o b t) (iq_visit (k + 1) e d o b t) := LeO.bind (impl_endOfPasting.mono _ _ _ _) (fun _ => LeO.refl _)
theorem iq_mono : ∀ k, (∀ n e d o b t, LeO (iq_put k n e d o b t) (iq_put (k + 1) n e d o b t)) ∧ (∀ n e d o b t g, LeO (iq_loop k n e d o b t g) (iq_loop (k + 1) n e d o b t g))
  | 0 => ⟨fun _ _ _ _ _ _ r h => by simp [iq_put] at h, fun _ _ _ _ _ _ _ r h => by simp [iq_loop] at h⟩
  | k + 1 => by
    obtain ⟨i1, i2⟩ := iq_mono k
    constructor
    · intro n e d o b t
      rw [iq_put, iq_put]
      repeat' first
        | (with_reducible exact i1 _ _ _ _ _ _)
        | (with_reducible exact i2 _ _ _ _ _ _ _)
        | (with_reducible exact iq_visit_mono _ _ _ _ _ _)
        | (with_reducible exact LeO.refl _)
        | (with_reducible refine LeO.ite ?_ ?_)
        | (with_reducible refine LeO.bind ?_ (fun _ => ?_))
    · intro n e d o b t g
      rw [iq_loop, iq_loop]
      repeat' first
        | (with_reducible exact i1 _ _ _ _ _ _)
        | (with_reducible exact i2 _ _ _ _ _ _ _)
        | (with_reducible exact slices_Contains_int64_int64.mono _ _ _)
        | (with_reducible exact LeO.refl _)
        | (with_reducible refine LeO.ite ?_ ?_)
        | (with_reducible refine LeO.bind ?_ (fun _ => ?_))
def impl_QuickOrder.f (k : Nat) (a0 a1 a2 : Int) : Option (List Int × Int × Int) := (impl_within.f a0 2 7).bind fun x => if x = true then ((impl_isWork.f a1 a2).bind fun y => if y = true then ((iq_put k a0 a1 a2 [] [] (-1)).bind fun r => some (r.1, r.2, 0)) else some ([], 0, 2)) else some ([], 0, 2)
theorem impl_QuickOrder.mono : ∀ a0 a1 a2 k, LeO (impl_QuickOrder.f k a0 a1 a2) (impl_QuickOrder.f (k + 1) a0 a1 a2) := fun _ _ _ k => LeO.bind (LeO.refl _) (fun _ => LeO.ite (LeO.bind (LeO.refl _) (fun _ => LeO.ite (LeO.bind ((iq_mono k).1 _ _ _ _ _ _) (fun _ => LeO.refl _)) (LeO.refl _))) (LeO.refl _))
theorem IQ.found2 {w0 W W1 : World} {n e d : Int} {o b : List Int} {t : Int} {y : List Int} {vN : Value} (h : IS w0 W n e d o b t) (hN : Kd.R (Kd.int .i64) 2 W1 W.heap.size (fun _ => True) vN y) (hb1 : Below W.heap.size W W1) (t' : Int) : IS w0 ((W1.setCell ⟨w0.heap.size + 3, 0, none⟩ vN).setCell ⟨w0.heap.size + 4, 0, none⟩ (.int .i64 t')) n e d o y t' := h.found hN hb1
set_option maxRecDepth 100000 in
set_option maxHeartbeats 8000000 in
theorem iq_visit_calls (w0 : World) (n e d : Int) (k : Nat) (o b : List Int) (t : Int) (r : List Int × Int) (W : World) (A : Option Addr) (c : Nat) (hQ : IS w0 W n e d o b t) (h3 : W.cell? ⟨w0.heap.size + 8, 0, none⟩ = some (.slice A o.length c)) (h : iq_visit k e d o b t = some r) :
    Calls Try.prog 45 (#[.slice A o.length c] ++ #[.pointer (some ⟨w0.heap.size, 0, none⟩), .pointer (some ⟨w0.heap.size + 1, 0, none⟩), .pointer (some ⟨w0.heap.size + 4, 0, none⟩), .pointer (some ⟨w0.heap.size + 3, 0, none⟩)]) W fun x w' => x = .returned (.tuple #[]) ∧ IS w0 w' n e d o r.1 r.2 := by
  have HQ := Aside0.mk hQ
  obtain ⟨A1, c1, A2, c2, ⟨z0, z1, z3, z4, z5, z6, z8, z9⟩, ⟨f3, f4, f8⟩, HC, HCC, HI⟩ := hQ.opened
  rw [h3] at z8
  obtain ⟨rfl, -, rfl⟩ : A1 = A ∧ True ∧ c1 = c := by have := Option.some.inj z8; injection this with q1 q2 q3; exact ⟨q1.symm, trivial, q3.symm⟩
  clear hQ h3
  unfold iq_visit at h
  obtain ⟨x, hx, h⟩ := Option.bind_eq_some_iff.mp h
  have HX := Aside0.mk hx
  clear hx z5 z6 z9
  by_cases c1_ : t < 0
  · rw [if_pos c1_] at h
    obtain ⟨y, hy, h⟩ := Option.bind_eq_some_iff.mp h
    obtain rfl := Option.some.inj h
    have c1b : decide (t < 0) = true := decide_eq_true c1_
    have HY := Aside0.mk hy
    clear hy h c1_
    go_enter Try.func45, Try.ntmps45
    go_wp2_with (first | (go_at_call 46; refine (impl_endOfPasting.calls k _ _ o e d x _ HC.out HCC.out HX.out).mono ?_; rintro e_ w1 ⟨rfl, hb1⟩; have HQ1 := Aside0.mk (HQ.out.below hb1); have HC1 := Aside0.mk (Kd.C_below HC.out hb1); clear hb1 HQ z0 z1 z3 z4 z8 f3 f4 f8 HC HI; obtain ⟨A9, c9, A2, c2, ⟨z0, z1, z3, z4, z5, z6, z8, z9⟩, ⟨f3, f4, f8⟩, HC, HCC9, HI⟩ := HQ1.out.opened; clear z5 z6 z8 z9) | (go_at_call 47; refine (slices_Clone_int64_int64.calls _ _ o y _ HC1.out HCC.out HY.out).mono ?_; rintro e_ w2 ⟨vN, rfl, hN, hb2⟩; obtain ⟨AN, cN, rfl, _, _⟩ := Kd.R_reads hN; have HN := Aside0.mk (IQ.found2 HQ1.out hN hb2 x); have HQ3 := Aside0.mk (HQ1.out.below hb2); clear hN hb2 HQ1 z0 z1 z3 z4 f3 f4 f8 HC HC1 HI; obtain ⟨A9, c9, A2, c2, ⟨z0, z1, z3, z4, z5, z6, z8, z9⟩, ⟨f3, f4, f8⟩, HC, HCC9, HI⟩ := HQ3.out.opened; clear z5 z6 z8 z9))
    first | go_end0 | (refine bodyPost_ret (results_none rfl _ _ _) rfl ?_)
    exact ⟨rfl, HN.out⟩
  · rw [if_neg c1_] at h
    have c1b : decide (t < 0) = false := decide_eq_false c1_
    clear c1_
    by_cases c2_ : x < t
    · rw [if_pos c2_] at h
      obtain ⟨y, hy, h⟩ := Option.bind_eq_some_iff.mp h
      obtain rfl := Option.some.inj h
      have c2b : decide (x < t) = true := decide_eq_true c2_
      have HY := Aside0.mk hy
      clear hy h c2_
      go_enter Try.func45, Try.ntmps45
      go_wp2_with (first | (go_at_call 46; refine (impl_endOfPasting.calls k _ _ o e d x _ HC.out HCC.out HX.out).mono ?_; rintro e_ w1 ⟨rfl, hb1⟩; have HQ1 := Aside0.mk (HQ.out.below hb1); have HC1 := Aside0.mk (Kd.C_below HC.out hb1); clear hb1 HQ z0 z1 z3 z4 z8 f3 f4 f8 HC HI; obtain ⟨A9, c9, A2, c2, ⟨z0, z1, z3, z4, z5, z6, z8, z9⟩, ⟨f3, f4, f8⟩, HC, HCC9, HI⟩ := HQ1.out.opened; clear z5 z6 z8 z9) | (go_at_call 47; refine (slices_Clone_int64_int64.calls _ _ o y _ HC1.out HCC.out HY.out).mono ?_; rintro e_ w2 ⟨vN, rfl, hN, hb2⟩; obtain ⟨AN, cN, rfl, _, _⟩ := Kd.R_reads hN; have HN := Aside0.mk (IQ.found2 HQ1.out hN hb2 x); have HQ3 := Aside0.mk (HQ1.out.below hb2); clear hN hb2 HQ1 z0 z1 z3 z4 f3 f4 f8 HC HC1 HI; obtain ⟨A9, c9, A2, c2, ⟨z0, z1, z3, z4, z5, z6, z8, z9⟩, ⟨f3, f4, f8⟩, HC, HCC9, HI⟩ := HQ3.out.opened; clear z5 z6 z8 z9))
      first | go_end0 | (refine bodyPost_ret (results_none rfl _ _ _) rfl ?_)
      exact ⟨rfl, HN.out⟩
    · rw [if_neg c2_] at h
      obtain rfl := Option.some.inj h
      have c2b : decide (x < t) = false := decide_eq_false c2_
      clear h c2_
      go_enter Try.func45, Try.ntmps45
      go_wp2_with (first | (go_at_call 46; refine (impl_endOfPasting.calls k _ _ o e d x _ HC.out HCC.out HX.out).mono ?_; rintro e_ w1 ⟨rfl, hb1⟩; have HQ1 := Aside0.mk (HQ.out.below hb1); have HC1 := Aside0.mk (Kd.C_below HC.out hb1); clear hb1 HQ z0 z1 z3 z4 z8 f3 f4 f8 HC HI; obtain ⟨A9, c9, A2, c2, ⟨z0, z1, z3, z4, z5, z6, z8, z9⟩, ⟨f3, f4, f8⟩, HC, HCC9, HI⟩ := HQ1.out.opened; clear z5 z6 z8 z9))
      first | go_end0 | (refine bodyPost_ret (results_none rfl _ _ _) rfl ?_)
      exact ⟨rfl, HQ1.out⟩
set_option maxRecDepth 100000 in
set_option maxHeartbeats 8000000 in
theorem iq_put_calls (w0 : World) (n e d : Int) : ∀ (k : Nat) (o b : List Int) (t : Int) (r : List Int × Int) (W : World), IS w0 W n e d o b t → iq_put k n e d o b t = some r →
    Calls Try.prog 67 #[.pointer (some ⟨w0.heap.size + 8, 0, none⟩), .pointer (some ⟨w0.heap.size + 5, 0, none⟩), .pointer (some ⟨w0.heap.size + 6, 0, none⟩), .pointer (some ⟨w0.heap.size + 9, 0, none⟩)] W fun x w' => x = .returned (.tuple #[]) ∧ IS w0 w' n e d o r.1 r.2 := by
  have eg1 : ∀ args w, (callFunc 45 args).run Try.prog w = .ok (.enter 45 args) w := Go.Proofs.Ytfpddpkloplpeaa.Hand.enters Try.func45 (by kernel_rfl) rfl
  have eg2 : ∀ args w, (callFunc 67 args).run Try.prog w = .ok (.enter 67 args) w := Go.Proofs.Ytfpddpkloplpeaa.Hand.enters Try.func67 (by kernel_rfl) rfl
  intro k
  induction k using Nat.strongRecOn with
  | ind k ih =>
  intro o b t r W hQ h
  cases k with
  | zero => exact absurd h (by simp [iq_put])
  | succ k =>
    have IH := Aside0.mk ih
    clear ih
    have HQ := Aside0.mk hQ
    obtain ⟨A1, c1, A2, c2, ⟨z0, z1, z3, z4, z5, z6, z8, z9⟩, ⟨f3, f4, f8⟩, HC, HCC, HI⟩ := hQ.opened
    have Z8 := Aside0.mk z8
    simp only [visF] at z6
    clear hQ HC HCC HI z0 z1 z3 z4 z9 f3 f4 f8
    simp only [iq_put] at h
    by_cases c0 : (o.length : Int) = n
    · rw [if_pos c0] at h
      obtain ⟨q, hq, h⟩ := Option.bind_eq_some_iff.mp h
      have HV := Aside0.mk hq
      have H := Aside0.mk h
      have c0b : ((o.length : Int) == n) = true := by simp [c0]
      clear h hq c0
      go_enter Try.func67, Try.ntmps67
      go_wp2_with (first | (go_at_call 45; refine (iq_visit_calls w0 n e d k o b t q W A1 c1 HQ.out Z8.out HV.out).mono ?_; rintro e_ w1 ⟨rfl, hQ1⟩; have HQ1 := Aside0.mk hQ1; clear hQ1 HQ; have HQ := HQ1; clear HQ1 z5 z6 z8; obtain ⟨A7, c7, A2, c2, ⟨z0, z1, z3, z4, z5, z6, z8, z9⟩, ⟨f3, f4, f8⟩, HC, HCC, HI⟩ := HQ.out.opened; clear z0 z1 z3 z4 z6 z8 z9 f3 f4 f8 HC HCC HI))
      clear z5 c0b
      go_loopg [4, 13] k (fun kq v4 v13 w' => ∃ (gI : Int) (b1 : List Int) (t1 : Int), v13 = .int .i64 gI ∧ Aside0 (iq_loop kq n e d o b1 t1 gI = some r) ∧ Aside0 (kq ≤ k) ∧ Aside0 (IS w0 w' n e d o b1 t1))
      case atStart => exact ⟨0, _, _, rfl, H, ⟨Nat.le_refl _⟩, HQ⟩
      case round =>
        clear H HQ
        obtain ⟨gI, b1, t1, rfl, HA, HK, HQ⟩ := hrel
        cases gk with
        | zero => exact absurd HA.out (by simp [iq_loop])
        | succ k2 =>
          have h := HA.out
          clear HA
          simp only [iq_loop] at h
          obtain ⟨A1, c1, A2, c2, ⟨z0, z1, z3, z4, z5, z6, z8, z9⟩, ⟨f3, f4, f8⟩, HC, HCC, HI⟩ := HQ.out.opened
          clear z0 z1 z3 z4 z6 z9 f3 f4
          by_cases c5 : gI < n
          · rw [if_pos c5] at h
            have c5b : decide (gI < n) = true := decide_eq_true c5
            clear c5
            obtain ⟨hh, hHas, h⟩ := Option.bind_eq_some_iff.mp h
            have HAS := Aside0.mk hHas
            clear hHas
            cases hh with
            | true =>
              rw [if_pos rfl] at h
              have H := Aside0.mk h
              clear h
              go_wp2_with (go_at_call 68; refine (slices_Contains_int64_int64.calls k2 _ _ o gI true _ HC.out HCC.out HAS.out).mono ?_; rintro e_ w1 ⟨rfl, ⟨nd, rfl⟩⟩)
              go_roundg k2
              case measure => omega
              case rel => exact ⟨_, b1, t1, rfl, H, ⟨by have := HK.out; omega⟩, ⟨HQ.out.drewN nd⟩⟩
            | false =>
              rw [if_neg (by simp)] at h
              by_cases c6 : o.length < 1000
              · rw [if_pos c6] at h
                obtain ⟨r2, hw, h⟩ := Option.bind_eq_some_iff.mp h
                have HW := Aside0.mk hw
                have H := Aside0.mk h
                have C6 := Aside0.mk c6
                clear h hw c6
                go_wp2_with (first | (go_at_call 68; refine (slices_Contains_int64_int64.calls k2 _ _ o gI false _ HC.out HCC.out HAS.out).mono ?_; rintro e_ w1 ⟨rfl, ⟨nd, rfl⟩⟩; have HI2 := Aside0.mk (HI.out.below (pw_below_drewN (Below.refl _ _) nd)); clear HI) | ((with_reducible refine gate_builtin (b := .append) (xs := #[.tmp 20, .tmp 22]) rfl ?_); at_builtin; refine Kd.R_append (Kd.int .i64) (w0 := w0) w0.heap.size rfl (.tmp 20) (.tmp 22) 25 2 (.int .i64 0) 8 rfl Try.underlying25 info2 rfl (by decide) (by omega) (.slice A1 o.length c1) o gI [.int .i64 gI] (okI w0.heap.size) (fun _ => False) rfl rfl ?aP (fun _ hk => hk.elim) ?aF ?aO ?aB ?aS ?aL ?_; (case aP => exact rfl); (case aF => exact fun k_ hk => by have := blk_lt HI2.out.1.2.2.2.2.2.2.2; unfold okI; omega); (case aO => exact HI2.out.2.1); (case aB => exact HI2.out.2.2.2); (case aS => exact HI2.out.2.2.2.size); (case aL => have := C6.out; omega); intro v1 w2 ho hb hg hat; obtain ⟨A5, c5, rfl, _, _⟩ := Kd.R_reads ho; have hG0 := IQ.grown HI2.out ho hb hg hat; simp only [List.length_append, List.length_cons, List.length_nil, Nat.zero_add] at hG0; have HG := Aside0.mk hG0; clear hG0; have hne_ : ∀ k_, (k_ = w0.heap.size + 8 ∨ k_ = w0.heap.size + 9) → some k_ ≠ (Value.slice A1 o.length c1).ownBlock := fun k_ hk_ e_ => (by have := HI2.out.2.1.1 _ e_.symm; unfold okI at this; omega); have y8 : w2.cell? ⟨w0.heap.size + 8, 0, none⟩ = some (.slice A1 o.length c1) := (blk_cell (blk_grown HI2.out.1.2.2.2.2.2.2.1 hg (hne_ _ (.inl rfl))) 0).trans rfl; have y8f := blk_frozen (blk_grown HI2.out.1.2.2.2.2.2.2.1 hg (hne_ _ (.inl rfl))) 0; have y9 : w2.cell? ⟨w0.heap.size + 9, 0, none⟩ = some (putF w0) := (blk_cell (blk_grown HI2.out.1.2.2.2.2.2.2.2 hg (hne_ _ (.inr rfl))) 0).trans rfl; simp only [putF] at y9; clear ho hb hg hat hne_ z5 z8 f8 HC HCC) | (go_at_call 67; refine (IH.out k2 (by have := HK.out; omega) (o ++ [gI]) b1 t1 r2 _ HG.out HW.out).mono ?_; rintro e_ w3 ⟨rfl, hQ3⟩; have HQ3 := Aside0.mk hQ3; clear hQ3 y8 y8f y9 HI2 HG; obtain ⟨A3, c3, A4, c4, ⟨y0, y1, y3, y4, y5, y6, y8, y9⟩, ⟨g3, g4, g8⟩, HC3, HCC3, HI3⟩ := HQ3.out.opened; clear y0 y1 y3 y4 y5 y6 y9 g3 g4; have HB := Aside0.mk HI3.out.back; have s1 : (o.length : Int) ≤ (c3 : Int) := (by have := HCC3.out; simp at this; omega); obtain ⟨m, hm⟩ : ∃ m : Nat, (o ++ [gI]).length = m := ⟨_, rfl⟩; have hm1 : m = o.length + 1 := (by rw [← hm]; simp); rw [hm] at y8; have hw1 : wrap64 ((m : Int) - 1) = (o.length : Int) := (by have := C6.out; unfold wrap64; omega); have hw2 : IntKind.i64.wrap ((m : Int) - 1) = (o.length : Int) := (by rw [i64_w]; exact hw1); have HM := Aside0.mk hm; clear hm hm1))
                go_roundg k2
                case measure => omega
                case rel => exact ⟨_, r2.1, r2.2, rfl, H, ⟨by have := HK.out; omega⟩, HB⟩
              · rw [if_neg c6] at h
                exact absurd h (by simp)
          · rw [if_neg c5] at h
            have c5b : decide (gI < n) = false := decide_eq_false c5
            clear c5
            obtain rfl := Option.some.inj h
            clear h
            go_wp2
            first | go_end0 | (simp only [Exit.inBlock, Exit.then]; refine bodyPost_ret (results_none rfl _ _ _) rfl ?_) | trace_state
            exact ⟨rfl, HQ.out⟩
    · rw [if_neg c0] at h
      have H := Aside0.mk h
      have c0b : ((o.length : Int) == n) = false := by simp [c0]
      clear h c0
      go_enter Try.func67, Try.ntmps67
      go_wp2
      clear z5 z6 z8 c0b
      go_loopg [4, 13] k (fun kq v4 v13 w' => ∃ (gI : Int) (b1 : List Int) (t1 : Int), v13 = .int .i64 gI ∧ Aside0 (iq_loop kq n e d o b1 t1 gI = some r) ∧ Aside0 (kq ≤ k) ∧ Aside0 (IS w0 w' n e d o b1 t1))
      case atStart => exact ⟨0, _, _, rfl, H, ⟨Nat.le_refl _⟩, HQ⟩
      case round =>
        clear H HQ
        obtain ⟨gI, b1, t1, rfl, HA, HK, HQ⟩ := hrel
        cases gk with
        | zero => exact absurd HA.out (by simp [iq_loop])
        | succ k2 =>
          have h := HA.out
          clear HA
          simp only [iq_loop] at h
          obtain ⟨A1, c1, A2, c2, ⟨z0, z1, z3, z4, z5, z6, z8, z9⟩, ⟨f3, f4, f8⟩, HC, HCC, HI⟩ := HQ.out.opened
          clear z0 z1 z3 z4 z6 z9 f3 f4
          by_cases c5 : gI < n
          · rw [if_pos c5] at h
            have c5b : decide (gI < n) = true := decide_eq_true c5
            clear c5
            obtain ⟨hh, hHas, h⟩ := Option.bind_eq_some_iff.mp h
            have HAS := Aside0.mk hHas
            clear hHas
            cases hh with
            | true =>
              rw [if_pos rfl] at h
              have H := Aside0.mk h
              clear h
              go_wp2_with (go_at_call 68; refine (slices_Contains_int64_int64.calls k2 _ _ o gI true _ HC.out HCC.out HAS.out).mono ?_; rintro e_ w1 ⟨rfl, ⟨nd, rfl⟩⟩)
              go_roundg k2
              case measure => omega
              case rel => exact ⟨_, b1, t1, rfl, H, ⟨by have := HK.out; omega⟩, ⟨HQ.out.drewN nd⟩⟩
            | false =>
              rw [if_neg (by simp)] at h
              by_cases c6 : o.length < 1000
              · rw [if_pos c6] at h
                obtain ⟨r2, hw, h⟩ := Option.bind_eq_some_iff.mp h
                have HW := Aside0.mk hw
                have H := Aside0.mk h
                have C6 := Aside0.mk c6
                clear h hw c6
                go_wp2_with (first | (go_at_call 68; refine (slices_Contains_int64_int64.calls k2 _ _ o gI false _ HC.out HCC.out HAS.out).mono ?_; rintro e_ w1 ⟨rfl, ⟨nd, rfl⟩⟩; have HI2 := Aside0.mk (HI.out.below (pw_below_drewN (Below.refl _ _) nd)); clear HI) | ((with_reducible refine gate_builtin (b := .append) (xs := #[.tmp 20, .tmp 22]) rfl ?_); at_builtin; refine Kd.R_append (Kd.int .i64) (w0 := w0) w0.heap.size rfl (.tmp 20) (.tmp 22) 25 2 (.int .i64 0) 8 rfl Try.underlying25 info2 rfl (by decide) (by omega) (.slice A1 o.length c1) o gI [.int .i64 gI] (okI w0.heap.size) (fun _ => False) rfl rfl ?aP (fun _ hk => hk.elim) ?aF ?aO ?aB ?aS ?aL ?_; (case aP => exact rfl); (case aF => exact fun k_ hk => by have := blk_lt HI2.out.1.2.2.2.2.2.2.2; unfold okI; omega); (case aO => exact HI2.out.2.1); (case aB => exact HI2.out.2.2.2); (case aS => exact HI2.out.2.2.2.size); (case aL => have := C6.out; omega); intro v1 w2 ho hb hg hat; obtain ⟨A5, c5, rfl, _, _⟩ := Kd.R_reads ho; have hG0 := IQ.grown HI2.out ho hb hg hat; simp only [List.length_append, List.length_cons, List.length_nil, Nat.zero_add] at hG0; have HG := Aside0.mk hG0; clear hG0; have hne_ : ∀ k_, (k_ = w0.heap.size + 8 ∨ k_ = w0.heap.size + 9) → some k_ ≠ (Value.slice A1 o.length c1).ownBlock := fun k_ hk_ e_ => (by have := HI2.out.2.1.1 _ e_.symm; unfold okI at this; omega); have y8 : w2.cell? ⟨w0.heap.size + 8, 0, none⟩ = some (.slice A1 o.length c1) := (blk_cell (blk_grown HI2.out.1.2.2.2.2.2.2.1 hg (hne_ _ (.inl rfl))) 0).trans rfl; have y8f := blk_frozen (blk_grown HI2.out.1.2.2.2.2.2.2.1 hg (hne_ _ (.inl rfl))) 0; have y9 : w2.cell? ⟨w0.heap.size + 9, 0, none⟩ = some (putF w0) := (blk_cell (blk_grown HI2.out.1.2.2.2.2.2.2.2 hg (hne_ _ (.inr rfl))) 0).trans rfl; simp only [putF] at y9; clear ho hb hg hat hne_ z5 z8 f8 HC HCC) | (go_at_call 67; refine (IH.out k2 (by have := HK.out; omega) (o ++ [gI]) b1 t1 r2 _ HG.out HW.out).mono ?_; rintro e_ w3 ⟨rfl, hQ3⟩; have HQ3 := Aside0.mk hQ3; clear hQ3 y8 y8f y9 HI2 HG; obtain ⟨A3, c3, A4, c4, ⟨y0, y1, y3, y4, y5, y6, y8, y9⟩, ⟨g3, g4, g8⟩, HC3, HCC3, HI3⟩ := HQ3.out.opened; clear y0 y1 y3 y4 y5 y6 y9 g3 g4; have HB := Aside0.mk HI3.out.back; have s1 : (o.length : Int) ≤ (c3 : Int) := (by have := HCC3.out; simp at this; omega); obtain ⟨m, hm⟩ : ∃ m : Nat, (o ++ [gI]).length = m := ⟨_, rfl⟩; have hm1 : m = o.length + 1 := (by rw [← hm]; simp); rw [hm] at y8; have hw1 : wrap64 ((m : Int) - 1) = (o.length : Int) := (by have := C6.out; unfold wrap64; omega); have hw2 : IntKind.i64.wrap ((m : Int) - 1) = (o.length : Int) := (by rw [i64_w]; exact hw1); have HM := Aside0.mk hm; clear hm hm1))
                go_roundg k2
                case measure => omega
                case rel => exact ⟨_, r2.1, r2.2, rfl, H, ⟨by have := HK.out; omega⟩, HB⟩
              · rw [if_neg c6] at h
                exact absurd h (by simp)
          · rw [if_neg c5] at h
            have c5b : decide (gI < n) = false := decide_eq_false c5
            clear c5
            obtain rfl := Option.some.inj h
            clear h
            go_wp2
            first | go_end0 | (simp only [Exit.inBlock, Exit.then]; refine bodyPost_ret (results_none rfl _ _ _) rfl ?_) | trace_state
            exact ⟨rfl, HQ.out⟩
theorem size5 (w : World) (m : Nat) (o1 o2 o3 o4 o5 : Obj) : (((((w.alloc o1).alloc o2).drewN m).alloc o3).alloc o4 |>.alloc o5).heap.size = w.heap.size + 5 := by
  have e1 : ∀ (W : World) (o : Obj), (W.alloc o).heap.size = W.heap.size + 1 := fun W o => by show (W.heap.push _).size = _; simp
  have hs : ∀ (W : World) (q : Nat), (W.drewN q).heap.size = W.heap.size := fun _ _ => rfl
  rw [e1, e1, e1, hs, e1, e1]
theorem emptyR (w : World) (base : Nat) (hb : base ≤ w.heap.size) : (Kd.int .i64).R 2 (w.alloc (.cells #[] 2)) base (fun k => k = w.heap.size) (.slice (some ⟨w.heap.size, 0, none⟩) 0 0) [] := by
  refine ⟨fun k hk => (Option.some.inj hk).symm, ?_⟩
  have h := OwnRow.lit (R := (Kd.int .i64).M (w.alloc (.cells #[] 2)) base (fun k => k = w.heap.size ∧ some k ≠ (Value.slice (some ⟨w.heap.size, 0, none⟩) 0 0).ownBlock)) (e := 2) (size := 1) (ps := []) w base (inner := []) ?_ hb (by simp)
  · exact h
  · exact Reps.none _ _
set_option maxRecDepth 100000 in
set_option maxHeartbeats 8000000 in
/-- The state at the first put. -/
theorem IS.start (w : World) (m : Nat) (n e d : Int) : IS w (((((((((((w.alloc (.cells #[.int .i64 e] 2)).alloc (.cells #[.int .i64 d] 2)).drewN m).alloc (.cells #[] 2)).alloc (.cells #[.slice (some ⟨w.heap.size + 2, 0, none⟩) 0 0] 25)).alloc (.cells #[.int .i64 (-1)] 2)).alloc (.cells #[.int .i64 n] 2)).alloc (.cells #[visF w] 55)).alloc (.cells #[] 2)).alloc (.cells #[.slice (some ⟨w.heap.size + 7, 0, none⟩) 0 0] 25)).alloc (.cells #[putF w] 1)) n e d [] [] (-1) := by
  have e1 : ∀ (W : World) (o : Obj), (W.alloc o).heap.size = W.heap.size + 1 := fun W o => by show (W.heap.push _).size = _; simp
  have hs : ∀ (W : World) (q : Nat), (W.drewN q).heap.size = W.heap.size := fun _ _ => rfl
  obtain ⟨W2, hW2⟩ : ∃ W2, W2 = ((w.alloc (.cells #[.int .i64 e] 2)).alloc (.cells #[.int .i64 d] 2)).drewN m := ⟨_, rfl⟩
  rw [← hW2]
  have s2 : W2.heap.size = w.heap.size + 2 := by rw [hW2, hs, e1, e1]
  have u2 : Below w.heap.size w W2 := by rw [hW2]; exact pw_below_drewN (below_alloc (below_alloc (Below.refl _ _) _) _) _
  have c0 : W2.heap[w.heap.size]? = some (.cells #[.int .i64 e] 2 (0, 0)) := by rw [hW2]; exact blk_drewN (blk_alloc (blk_new _ _) _) _
  have c1 : W2.heap[w.heap.size + 1]? = some (.cells #[.int .i64 d] 2 (0, 0)) := by
    rw [hW2]; refine blk_drewN ?_ _; have := blk_new (w.alloc (.cells #[.int .i64 e] 2)) (.cells #[.int .i64 d] 2); rw [e1] at this; exact this
  clear hW2
  obtain ⟨W3, hW3⟩ : ∃ W3, W3 = W2.alloc (.cells #[] 2) := ⟨_, rfl⟩
  rw [← hW3]
  have s3 : W3.heap.size = w.heap.size + 3 := by rw [hW3, e1, s2]
  have u3 : Below w.heap.size w W3 := by rw [hW3]; exact below_alloc u2 _
  have r3 : (Kd.int .i64).R 2 W3 w.heap.size (fun k => k = w.heap.size + 2) (.slice (some ⟨w.heap.size + 2, 0, none⟩) 0 0) [] := by
    have := emptyR W2 w.heap.size (by omega); rw [s2] at this; rw [hW3]; exact this
  replace c0 : W3.heap[w.heap.size]? = some (.cells #[.int .i64 e] 2 (0, 0)) := by rw [hW3]; exact blk_alloc c0 _
  replace c1 : W3.heap[w.heap.size + 1]? = some (.cells #[.int .i64 d] 2 (0, 0)) := by rw [hW3]; exact blk_alloc c1 _
  clear hW3
  obtain ⟨W4, hW4⟩ : ∃ W4, W4 = W3.alloc (.cells #[.slice (some ⟨w.heap.size + 2, 0, none⟩) 0 0] 25) := ⟨_, rfl⟩
  rw [← hW4]
  have s4 : W4.heap.size = w.heap.size + 4 := by rw [hW4, e1, s3]
  have c3 : W4.heap[w.heap.size + 3]? = some (.cells #[.slice (some ⟨w.heap.size + 2, 0, none⟩) 0 0] 25 (0, 0)) := by rw [hW4, ← s3]; exact blk_new _ _
  obtain ⟨W5, hW5⟩ : ∃ W5, W5 = W4.alloc (.cells #[.int .i64 (-1)] 2) := ⟨_, rfl⟩
  rw [← hW5]
  have s5 : W5.heap.size = w.heap.size + 5 := by rw [hW5, e1, s4]
  have c4 : W5.heap[w.heap.size + 4]? = some (.cells #[.int .i64 (-1)] 2 (0, 0)) := by rw [hW5, ← s4]; exact blk_new _ _
  obtain ⟨W6, hW6⟩ : ∃ W6, W6 = W5.alloc (.cells #[.int .i64 n] 2) := ⟨_, rfl⟩
  rw [← hW6]
  have s6 : W6.heap.size = w.heap.size + 6 := by rw [hW6, e1, s5]
  have c5 : W6.heap[w.heap.size + 5]? = some (.cells #[.int .i64 n] 2 (0, 0)) := by rw [hW6, ← s5]; exact blk_new _ _
  obtain ⟨W7, hW7⟩ : ∃ W7, W7 = W6.alloc (.cells #[visF w] 55) := ⟨_, rfl⟩
  rw [← hW7]
  have s7 : W7.heap.size = w.heap.size + 7 := by rw [hW7, e1, s6]
  have c6 : W7.heap[w.heap.size + 6]? = some (.cells #[visF w] 55 (0, 0)) := by rw [hW7, ← s6]; exact blk_new _ _
  have b37 : Below W3.heap.size W3 W7 := by rw [hW7, hW6, hW5, hW4]; exact below_alloc (below_alloc (below_alloc (below_alloc (Below.refl _ _) _) _) _) _
  have c3' := blk_below c3 (show Below W4.heap.size W4 W7 by rw [hW7, hW6, hW5]; exact below_alloc (below_alloc (below_alloc (Below.refl _ _) _) _) _)
  have c4' := blk_below c4 (show Below W5.heap.size W5 W7 by rw [hW7, hW6]; exact below_alloc (below_alloc (Below.refl _ _) _) _)
  have c5' := blk_below c5 (show Below W6.heap.size W6 W7 by rw [hW7]; exact below_alloc (Below.refl _ _) _)
  have c0' := blk_below c0 b37
  have c1' := blk_below c1 b37
  have r7 := Kd.R_below r3 b37
  have u7 := below_then u3 u3.size b37
  clear hW4 hW5 hW6 hW7 c0 c1 c3 c4 c5 r3 b37 s4 s5 s6
  have e8 := emptyR W7 W7.heap.size (Nat.le_refl _)
  rw [s7] at e8
  obtain ⟨W8, hW8⟩ : ∃ W8, W8 = W7.alloc (.cells #[] 2) := ⟨_, rfl⟩
  rw [← hW8] at e8 ⊢
  have s8 : W8.heap.size = w.heap.size + 8 := by rw [hW8, e1, s7]
  obtain ⟨W9, hW9⟩ : ∃ W9, W9 = W8.alloc (.cells #[.slice (some ⟨w.heap.size + 7, 0, none⟩) 0 0] 25) := ⟨_, rfl⟩
  rw [← hW9]
  have s9 : W9.heap.size = w.heap.size + 9 := by rw [hW9, e1, s8]
  have c8 : W9.heap[w.heap.size + 8]? = some (.cells #[.slice (some ⟨w.heap.size + 7, 0, none⟩) 0 0] 25 (0, 0)) := by rw [hW9, ← s8]; exact blk_new _ _
  obtain ⟨WA, hWA⟩ : ∃ WA, WA = W9.alloc (.cells #[putF w] 1) := ⟨_, rfl⟩
  rw [← hWA]
  have c9 : WA.heap[w.heap.size + 9]? = some (.cells #[putF w] 1 (0, 0)) := by rw [hWA, ← s9]; exact blk_new _ _
  have b7A : Below W7.heap.size W7 WA := by rw [hWA, hW9, hW8]; exact below_alloc (below_alloc (below_alloc (Below.refl _ _) _) _) _
  have b8A : Below W8.heap.size W8 WA := by rw [hWA, hW9]; exact below_alloc (below_alloc (Below.refl _ _) _) _
  have b9A : Below W9.heap.size W9 WA := by rw [hWA]; exact below_alloc (Below.refl _ _) _
  have rO := Kd.R_below e8 b8A
  have rB := Kd.R_below r7 b7A
  refine ⟨.slice (some ⟨w.heap.size + 7, 0, none⟩) 0 0, .slice (some ⟨w.heap.size + 2, 0, none⟩) 0 0, ⟨blk_below c0' b7A, blk_below c1' b7A, blk_below c3' b7A, blk_below c4' b7A, blk_below c5' b7A, blk_below c6 b7A, blk_below c8 b9A, c9⟩, ?_, ?_, below_then u7 u7.size b7A⟩
  · exact Kd.R_mono (Kd.R_lower rO (show w.heap.size ≤ w.heap.size + 7 by omega)) (fun k hk => by unfold okI; omega)
  · refine Kd.R_mono rB (fun k hk => ⟨by unfold okI; omega, fun e_ => ?_⟩)
    have := Option.some.inj e_
    dsimp only at this
    omega
set_option maxRecDepth 100000 in
set_option maxHeartbeats 8000000 in
theorem eachOrder_calls (w W : World) (m : Nat) (n e d : Int) (k : Nat) (r : List Int × Int) (hs : W.heap.size = w.heap.size + 5) (hW : W = (((((w.alloc (.cells #[.int .i64 e] 2)).alloc (.cells #[.int .i64 d] 2)).drewN m).alloc (.cells #[] 2)).alloc (.cells #[.slice (some ⟨w.heap.size + 2, 0, none⟩) 0 0] 25)).alloc (.cells #[.int .i64 (-1)] 2)) (h : iq_put k n e d [] [] (-1) = some r) :
    Calls Try.prog 44 #[.int .i64 n, visF w] W fun x w' => x = .returned (.tuple #[]) ∧ IS w w' n e d [] r.1 r.2 := by
  have eg2 : ∀ args w, (callFunc 67 args).run Try.prog w = .ok (.enter 67 args) w := Go.Proofs.Ytfpddpkloplpeaa.Hand.enters Try.func67 (by kernel_rfl) rfl
  have hst := IS.start w m n e d
  rw [← hW] at hst
  have hcall : Calls Try.prog 67 #[.pointer (some ⟨W.heap.size + 1 + 1 + 1, 0, none⟩), .pointer (some ⟨W.heap.size, 0, none⟩), .pointer (some ⟨W.heap.size + 1, 0, none⟩), .pointer (some ⟨W.heap.size + 1 + 1 + 1 + 1, 0, none⟩)]
      (((((W.alloc (.cells #[.int .i64 n] 2)).alloc (.cells #[visF w] 55)).alloc (.cells #[] 2)).alloc (.cells #[.slice (some ⟨W.heap.size + 1 + 1, 0, none⟩) 0 0] 25)).alloc (.cells #[.func (.func 67) #[] #[.pointer (some ⟨W.heap.size + 1 + 1 + 1, 0, none⟩), .pointer (some ⟨W.heap.size, 0, none⟩), .pointer (some ⟨W.heap.size + 1, 0, none⟩), .pointer (some ⟨W.heap.size + 1 + 1 + 1 + 1, 0, none⟩)]] 1)) (fun x w' => x = .returned (.tuple #[]) ∧ IS w w' n e d [] r.1 r.2) := by
    rw [hs]
    exact iq_put_calls w n e d k [] [] (-1) r _ hst h
  unfold visF at hcall ⊢
  have HC := Aside0.mk hcall
  clear hs hst hW h hcall
  go_enter Try.func44, Try.ntmps44
  go_wp2_with (go_at_call 67; refine HC.out.mono ?_; rintro e_ w3 ⟨rfl, hQ3⟩; have HQ3 := Aside0.mk hQ3; clear hQ3)
  first | go_end0 | (refine bodyPost_ret (results_none rfl _ _ _) rfl ?_)
  exact ⟨rfl, HQ3.out⟩
set_option maxRecDepth 100000 in
set_option maxHeartbeats 8000000 in
theorem impl_QuickOrder.calls (k : Nat) (a0 a1 a2 : Int) (r1 : List Int) (r2 r3 : Int) (w : World) (h : impl_QuickOrder.f k a0 a1 a2 = some (r1, r2, r3)) :
    Calls Try.prog 19 #[.int .i64 a0, .int .i64 a1, .int .i64 a2] w fun e w' => ∃ v0_ : Value, e = .returned (.tuple #[v0_, .int .i64 r2, .int .i64 r3]) ∧ Kd.R (Kd.int .i64) 2 w' w.heap.size (fun _ => True) v0_ r1 ∧ Below w.heap.size w w' := by
  unfold impl_QuickOrder.f at h
  have eg1 : ∀ args w, (callFunc 45 args).run Try.prog w = .ok (.enter 45 args) w := Go.Proofs.Ytfpddpkloplpeaa.Hand.enters Try.func45 (by kernel_rfl) rfl
  have eg2 : ∀ args w, (callFunc 67 args).run Try.prog w = .ok (.enter 67 args) w := Go.Proofs.Ytfpddpkloplpeaa.Hand.enters Try.func67 (by kernel_rfl) rfl
  obtain ⟨x, hx, h⟩ := Option.bind_eq_some_iff.mp h
  have HX := Aside0.mk hx
  clear hx
  cases x with
  | false =>
    rw [if_neg (by simp)] at h
    have e := Option.some.inj h
    simp only [Prod.mk.injEq] at e
    obtain ⟨rfl, rfl, rfl⟩ := e
    clear h
    go_enter Try.func19, Try.ntmps19
    go_wp2_with (go_at_call 38; refine (impl_within.calls a0 2 7 false _ HX.out).mono ?_; rintro e_ w1 ⟨rfl, ⟨nd, rfl⟩⟩)
    go_ret3
    exact ⟨_, rfl, Kd.R_nil _ _ _ _ _, by repeat (first | (with_reducible first | exact (Below.refl _ _) | apply below_alloc | apply pw_below_drewN | apply below_drew1) | exact (Below.refl _ _))⟩
  | true =>
    rw [if_pos rfl] at h
    obtain ⟨y, hy, h⟩ := Option.bind_eq_some_iff.mp h
    have HY := Aside0.mk hy
    clear hy
    cases y with
    | false =>
      rw [if_neg (by simp)] at h
      have e := Option.some.inj h
      simp only [Prod.mk.injEq] at e
      obtain ⟨rfl, rfl, rfl⟩ := e
      clear h
      go_enter Try.func19, Try.ntmps19
      go_wp2_with (first | (go_at_call 38; refine (impl_within.calls a0 2 7 true _ HX.out).mono ?_; rintro e_ w1 ⟨rfl, ⟨nd, rfl⟩⟩) | (go_at_call 43; refine (impl_isWork.calls a1 a2 false _ HY.out).mono ?_; rintro e_ w1 ⟨rfl, ⟨nd2, rfl⟩⟩))
      go_ret3
      exact ⟨_, rfl, Kd.R_nil _ _ _ _ _, by repeat (first | (with_reducible first | exact (Below.refl _ _) | apply below_alloc | apply pw_below_drewN | apply below_drew1) | exact (Below.refl _ _))⟩
    | true =>
      rw [if_pos rfl] at h
      obtain ⟨r, hr, h⟩ := Option.bind_eq_some_iff.mp h
      have e := Option.some.inj h
      simp only [Prod.mk.injEq] at e
      obtain ⟨rfl, rfl, rfl⟩ := e
      have HW := Aside0.mk hr
      clear h hr
      go_enter Try.func19, Try.ntmps19
      go_wp2_with (first | (go_at_call 38; refine (impl_within.calls a0 2 7 true _ HX.out).mono ?_; rintro e_ w1 ⟨rfl, ⟨nd, rfl⟩⟩) | (go_at_call 43; refine (impl_isWork.calls a1 a2 true _ HY.out).mono ?_; rintro e_ w1 ⟨rfl, ⟨nd2, rfl⟩⟩) | (go_at_call 44; refine (eachOrder_calls w _ (nd + nd2) a0 a1 a2 k r (size5 w _ _ _ _ _ _) rfl HW.out).mono ?_; rintro e_ w3 ⟨rfl, hQ3⟩; have HQ3 := Aside0.mk hQ3; clear hQ3; obtain ⟨A1, c1, A2, c2, ⟨z0, z1, z3, z4, z5, z6, z8, z9⟩, ⟨f3, f4, f8⟩, HC, HCC, HI⟩ := HQ3.out.opened; clear z0 z1 z5 z6 z8 z9 f3 f4 f8; have y3 : w3.cell? ⟨w.heap.size + 1 + 1 + 1, 0, none⟩ = some (.slice A2 r.1.length c2) := z3; have y4 : w3.cell? ⟨w.heap.size + 1 + 1 + 1 + 1, 0, none⟩ = some (.int .i64 r.2) := z4; clear z3 z4))
      repeat (go_quiet (fail); try go_wp2)
      go_ret3
      have q1 := Kd.R_mono (ok' := fun _ => True) HI.out.2.2.1 (fun _ _ => trivial)
      have q2 := HI.out.2.2.2
      exact ⟨_, rfl, by (with_reducible repeat (first | apply Kd.R_alloc | apply Kd.R_drewN | apply Kd.R_drew)); exact q1, by repeat (first | (with_reducible first | exact q2 | apply below_alloc | apply pw_below_drewN | apply below_drew1) | exact q2)⟩


/-! ### spec_l18Ok: function 48 -/
def spec_l18Ok.l0 : Nat → List Int → Int → Int → Option (Bool)
  | 0, _, _, _ => none
  | k + 1, x0, x3, x4 => if x4 < (x0.length : Int) then (if 0 ≤ x4 then ((spec_l00In.f (rd x0 x4) 0 (wrap64 (x3 - 1))).bind fun t186 => (if t186 = true then (if x4 ≤ (x0.length : Int) then ((spec_l00Has.f k (x0.take (x4 : Int).toNat) (rd x0 x4)).bind fun t189 => (if t189 = true then (some false) else (spec_l18Ok.l0 k x0 x3 (wrap64 (x4 + 1))))) else (none)) else (some false))) else (none)) else (some true)
def spec_l18Ok.f (k : Nat) (l0 : List Int) : Option (Bool) := (spec_l00In.f (l0.length : Int) 2 12).bind fun t184 => (if t184 = true then (spec_l18Ok.l0 k l0 (l0.length : Int) 0) else (some false))
theorem spec_l18Ok.mono_l : ∀ k, (∀ y0 y1 y2, LeO (spec_l18Ok.l0 k y0 y1 y2) (spec_l18Ok.l0 (k + 1) y0 y1 y2))
  | 0 => fun _ _ _ r h => by simp [spec_l18Ok.l0] at h
  | k + 1 => by
    have ih0 := spec_l18Ok.mono_l k
    · intro y0 y1 y2
      unfold spec_l18Ok.l0
      repeat' first
      | (with_reducible exact ih0 _ _ _)
      | (with_reducible exact spec_l00Has.mono _ _ _)
      | (with_reducible exact LeO.refl _)
      | (with_reducible exact LeO.none _)
      | (with_reducible refine LeO.ite ?_ ?_)
      | (with_reducible refine LeO.bind ?_ (fun _ => ?_))
      | exact ih0 _ _ _
      | exact spec_l00Has.mono _ _ _
      | exact LeO.none _
      | refine LeO.ite ?_ ?_
      | refine LeO.bind ?_ (fun _ => ?_)
theorem spec_l18Ok.mono : ∀ a0 k, LeO (spec_l18Ok.f k a0) (spec_l18Ok.f (k + 1) a0) := by
  intro a0 k
  have ih0 := spec_l18Ok.mono_l k
  unfold spec_l18Ok.f
  repeat' first
      | (with_reducible exact ih0 _ _ _)
      | (with_reducible exact spec_l00Has.mono _ _ _)
      | (with_reducible exact LeO.refl _)
      | (with_reducible exact LeO.none _)
      | (with_reducible refine LeO.ite ?_ ?_)
      | (with_reducible refine LeO.bind ?_ (fun _ => ?_))
      | exact ih0 _ _ _
      | exact spec_l00Has.mono _ _ _
      | exact LeO.none _
      | refine LeO.ite ?_ ?_
      | refine LeO.bind ?_ (fun _ => ?_)
set_option maxHeartbeats 8000000 in
set_option maxRecDepth 100000 in
theorem spec_l18Ok.calls (k : Nat) (A0 : Option Addr) (c0 : Nat) (l0 : List Int) (r : Bool) (w : World) (hr0 : Kd.C (Kd.int .i64) w A0 l0.length l0) (hc0 : l0.length ≤ c0) (h : spec_l18Ok.f k l0 = some r) :
    Calls Try.prog 48 #[.slice A0 l0.length c0] w fun e w' => e = .returned (.bool r) ∧ Drawn0 w w' := by
  have HR0 := Aside0.mk hr0
  have HC0 := Aside0.mk hc0
  clear hr0 hc0
  have H : ((spec_l00In.f (l0.length : Int) 2 12).bind fun t184 => (if t184 = true then (spec_l18Ok.l0 k l0 (l0.length : Int) 0) else (some false))) = some r := h
  clear h
  replace H := Option.bind_eq_some_iff.mp H
  obtain ⟨t184, A20, H⟩ := H
  replace H : (if t184 = true then (spec_l18Ok.l0 k l0 (l0.length : Int) 0) else (some false)) = some r := H
  have A2 := Aside0.mk A20
  clear A20
  by_cases c3 : t184 = true
  · subst c3
    have H1 : (spec_l18Ok.l0 k l0 (l0.length : Int) 0) = some r := by rw [if_pos rfl] at H; exact H
    clear H
    have H := H1
    clear H1
    have H' := Aside0.mk H
    clear H
    go_enter Try.func48, Try.ntmps48
    go_wp2_with (first | (go_at_call 37; (with_reducible refine (spec_l00In.calls (l0.length : Int) 2 12 true _ A2.out).mono ?_); rintro e w' ⟨rfl, ⟨nd, rfl⟩⟩; (try first | exact ⟨rfl, _, World.drewN_drewN _ _ _⟩ | exact ⟨rfl, _, Eq.trans (World.drewN_drewN _ _ _) (congrArg (World.drewN _) (Nat.add_assoc _ _ _))⟩)))
    repeat (go_quiet (first | (go_at_call 37; (with_reducible refine (spec_l00In.calls (l0.length : Int) 2 12 true _ A2.out).mono ?_); rintro e w' ⟨rfl, ⟨nd, rfl⟩⟩; (try first | exact ⟨rfl, _, World.drewN_drewN _ _ _⟩ | exact ⟨rfl, _, Eq.trans (World.drewN_drewN _ _ _) (congrArg (World.drewN _) (Nat.add_assoc _ _ _))⟩))); try go_wp2_with (first | (go_at_call 37; (with_reducible refine (spec_l00In.calls (l0.length : Int) 2 12 true _ A2.out).mono ?_); rintro e w' ⟨rfl, ⟨nd, rfl⟩⟩; (try first | exact ⟨rfl, _, World.drewN_drewN _ _ _⟩ | exact ⟨rfl, _, Eq.trans (World.drewN_drewN _ _ _) (congrArg (World.drewN _) (Nat.add_assoc _ _ _))⟩))))
    go_loopg [4] k (fun kq v4 w' => ∃ (x4_1 : Int), v4 = .int .i64 x4_1 ∧ Aside0 (spec_l18Ok.l0 kq l0 (l0.length : Int) x4_1 = some r) ∧ Aside0 (kq ≤ k) ∧ Drawn0 w w')
    case atStart => exact ⟨(0), (by first | rfl | (simp; done) | (simp [*]; done)), H', ⟨Nat.le_refl _⟩, by repeat (first | exact Drawn0.refl _ | apply Drawn0.step)⟩
    case round =>
      clear H'
      try clear p2
      try clear c3
      obtain ⟨x4_1, rfl, HA, HK1, ⟨m1, rfl⟩⟩ := hrel
      cases gk with
      | zero => exact absurd HA.out (by simp [spec_l18Ok.l0])
      | succ k1 =>
        have H := HA.out
        clear HA
        simp only [spec_l18Ok.l0] at H
        by_cases c4 : x4_1 < (l0.length : Int)
        · rw [if_pos c4] at H
          have c4b0 : decide (x4_1 < (l0.length : Int)) = true := decide_eq_true c4
          clear c4
          by_cases c5 : 0 ≤ x4_1
          · rw [if_pos c5] at H
            have c5b0 : decide (0 ≤ x4_1) = true := decide_eq_true c5
            clear c5
            replace H := Option.bind_eq_some_iff.mp H
            obtain ⟨t186, A60, H⟩ := H
            replace H : (if t186 = true then (if x4_1 ≤ (l0.length : Int) then ((spec_l00Has.f k1 (l0.take (x4_1 : Int).toNat) (rd l0 x4_1)).bind fun t189 => (if t189 = true then (some false) else (spec_l18Ok.l0 k1 l0 (l0.length : Int) (wrap64 (x4_1 + 1))))) else (none)) else (some false)) = some r := H
            have A6 := Aside0.mk A60
            clear A60
            by_cases c7 : t186 = true
            · subst c7
              have H1 : (if x4_1 ≤ (l0.length : Int) then ((spec_l00Has.f k1 (l0.take (x4_1 : Int).toNat) (rd l0 x4_1)).bind fun t189 => (if t189 = true then (some false) else (spec_l18Ok.l0 k1 l0 (l0.length : Int) (wrap64 (x4_1 + 1))))) else (none)) = some r := by rw [if_pos rfl] at H; exact H
              clear H
              have H := H1
              clear H1
              have c8b0 := eq_true (of_decide_eq_true (by first | (with_reducible assumption) | assumption) : 0 ≤ x4_1)
              by_cases c9 : x4_1 ≤ (l0.length : Int)
              · rw [if_pos c9] at H
                have c9b0 := eq_true c9
                have c9b1 : decide (x4_1 ≤ (l0.length : Int)) = true := decide_eq_true c9
                clear c9
                replace H := Option.bind_eq_some_iff.mp H
                obtain ⟨t189, A100, H⟩ := H
                replace H : (if t189 = true then (some false) else (spec_l18Ok.l0 k1 l0 (l0.length : Int) (wrap64 (x4_1 + 1)))) = some r := H
                have A10 := Aside0.mk A100
                clear A100
                by_cases c11 : t189 = true
                · subst c11
                  have H1 : (some false) = some r := by rw [if_pos rfl] at H; exact H
                  clear H
                  have H := H1
                  clear H1
                  obtain rfl := Option.some.inj H
                  have p185 : 0 ≤ (x4_1 : Int) := of_decide_eq_true (by first | (with_reducible assumption) | assumption)
                  have q185 : x4_1 < (l0.length : Int) := of_decide_eq_true (by first | (with_reducible assumption) | assumption)
                  obtain ⟨ad185, e185, hx185_0⟩ := Kd.at_int HR0.out x4_1 p185 q185
                  cases e185
                  replace p185 := eq_true p185
                  replace q185 := eq_true q185
                  obtain ⟨i012, hi012, _, hsz12, _⟩ := info_parts info2
                  obtain ⟨hcut12, hA12, hC12⟩ := print_take_of (P := Try.prog) (Value.int .i64) 0 25 2 .i64 Try.underlying25 hi012 hsz12 (some ad185) c0 l0 x4_1 (of_decide_eq_true (by first | (with_reducible assumption) | assumption)) (of_decide_eq_true (by first | (with_reducible assumption) | assumption)) HC0.out
                  have HR187 := Aside0.mk (Kd.C_of_reads (h1 := fun _ => rfl) (hA12 _ (Kd.reads_of_C HR0.out)))
                  have HC187 := Aside0.mk hC12
                  clear hA12 hC12 hi012 hsz12
                  have p188 : 0 ≤ (x4_1 : Int) := of_decide_eq_true (by first | (with_reducible assumption) | assumption)
                  have q188 : x4_1 < (l0.length : Int) := of_decide_eq_true (by first | (with_reducible assumption) | assumption)
                  obtain ⟨ad188, e188, hx188_0⟩ := Kd.at_int HR0.out x4_1 p188 q188
                  obtain rfl : ad185 = ad188 := (by injection e188)
                  replace p188 := eq_true p188
                  replace q188 := eq_true q188
                  have HLN := Aside0.mk (show (l0.take (x4_1 : Int).toNat).length = (x4_1 : Int).toNat from by have h0_ := of_eq_true p188; have h1_ := of_eq_true q188; rw [List.length_take]; omega)
                  go_wp2_with (first | (go_at_call 37; (with_reducible refine (spec_l00In.calls (rd l0 x4_1) 0 (wrap64 ((l0.length : Int) - 1)) true _ A6.out).mono ?_); rintro e w' ⟨rfl, ⟨nd, rfl⟩⟩; (try first | exact ⟨rfl, _, World.drewN_drewN _ _ _⟩ | exact ⟨rfl, _, Eq.trans (World.drewN_drewN _ _ _) (congrArg (World.drewN _) (Nat.add_assoc _ _ _))⟩)) | (go_at_call 66; rw [← HLN.out]; (with_reducible refine (spec_l00Has.calls k1 _ _ (l0.take (x4_1 : Int).toNat) (rd l0 x4_1) true _ ?side1 ?side2 A10.out).mono ?_); (case side1 => repeat (first | exact HR187.out | (with_reducible refine Kd.C_alloc ?_ _) | (with_reducible refine Kd.C_drewN ?_ _) | (with_reducible refine Kd.C_drew ?_))); (case side2 => exact HC187.out); rintro e w' ⟨rfl, ⟨nd, rfl⟩⟩; (try first | exact ⟨rfl, _, World.drewN_drewN _ _ _⟩ | exact ⟨rfl, _, Eq.trans (World.drewN_drewN _ _ _) (congrArg (World.drewN _) (Nat.add_assoc _ _ _))⟩)))
                  repeat (go_quiet (first | (go_at_call 37; (with_reducible refine (spec_l00In.calls (rd l0 x4_1) 0 (wrap64 ((l0.length : Int) - 1)) true _ A6.out).mono ?_); rintro e w' ⟨rfl, ⟨nd, rfl⟩⟩; (try first | exact ⟨rfl, _, World.drewN_drewN _ _ _⟩ | exact ⟨rfl, _, Eq.trans (World.drewN_drewN _ _ _) (congrArg (World.drewN _) (Nat.add_assoc _ _ _))⟩)) | (go_at_call 66; rw [← HLN.out]; (with_reducible refine (spec_l00Has.calls k1 _ _ (l0.take (x4_1 : Int).toNat) (rd l0 x4_1) true _ ?side1 ?side2 A10.out).mono ?_); (case side1 => repeat (first | exact HR187.out | (with_reducible refine Kd.C_alloc ?_ _) | (with_reducible refine Kd.C_drewN ?_ _) | (with_reducible refine Kd.C_drew ?_))); (case side2 => exact HC187.out); rintro e w' ⟨rfl, ⟨nd, rfl⟩⟩; (try first | exact ⟨rfl, _, World.drewN_drewN _ _ _⟩ | exact ⟨rfl, _, Eq.trans (World.drewN_drewN _ _ _) (congrArg (World.drewN _) (Nat.add_assoc _ _ _))⟩))); try go_wp2_with (first | (go_at_call 37; (with_reducible refine (spec_l00In.calls (rd l0 x4_1) 0 (wrap64 ((l0.length : Int) - 1)) true _ A6.out).mono ?_); rintro e w' ⟨rfl, ⟨nd, rfl⟩⟩; (try first | exact ⟨rfl, _, World.drewN_drewN _ _ _⟩ | exact ⟨rfl, _, Eq.trans (World.drewN_drewN _ _ _) (congrArg (World.drewN _) (Nat.add_assoc _ _ _))⟩)) | (go_at_call 66; rw [← HLN.out]; (with_reducible refine (spec_l00Has.calls k1 _ _ (l0.take (x4_1 : Int).toNat) (rd l0 x4_1) true _ ?side1 ?side2 A10.out).mono ?_); (case side1 => repeat (first | exact HR187.out | (with_reducible refine Kd.C_alloc ?_ _) | (with_reducible refine Kd.C_drewN ?_ _) | (with_reducible refine Kd.C_drew ?_))); (case side2 => exact HC187.out); rintro e w' ⟨rfl, ⟨nd, rfl⟩⟩; (try first | exact ⟨rfl, _, World.drewN_drewN _ _ _⟩ | exact ⟨rfl, _, Eq.trans (World.drewN_drewN _ _ _) (congrArg (World.drewN _) (Nat.add_assoc _ _ _))⟩))))
                  go_ret
                  exact ⟨by first | rfl | (simp; done) | (simp [*]; done), by repeat (first | exact Drawn0.refl _ | apply Drawn0.step)⟩
                · replace c11 := Bool.eq_false_iff.mpr c11
                  subst c11
                  have H1 : (spec_l18Ok.l0 k1 l0 (l0.length : Int) (wrap64 (x4_1 + 1))) = some r := by rw [if_neg (show ¬ (false = true) by decide)] at H; exact H
                  clear H
                  have H := H1
                  clear H1
                  have H' := Aside0.mk H
                  clear H
                  have p185 : 0 ≤ (x4_1 : Int) := of_decide_eq_true (by first | (with_reducible assumption) | assumption)
                  have q185 : x4_1 < (l0.length : Int) := of_decide_eq_true (by first | (with_reducible assumption) | assumption)
                  obtain ⟨ad185, e185, hx185_0⟩ := Kd.at_int HR0.out x4_1 p185 q185
                  cases e185
                  replace p185 := eq_true p185
                  replace q185 := eq_true q185
                  obtain ⟨i013, hi013, _, hsz13, _⟩ := info_parts info2
                  obtain ⟨hcut13, hA13, hC13⟩ := print_take_of (P := Try.prog) (Value.int .i64) 0 25 2 .i64 Try.underlying25 hi013 hsz13 (some ad185) c0 l0 x4_1 (of_decide_eq_true (by first | (with_reducible assumption) | assumption)) (of_decide_eq_true (by first | (with_reducible assumption) | assumption)) HC0.out
                  have HR187 := Aside0.mk (Kd.C_of_reads (h1 := fun _ => rfl) (hA13 _ (Kd.reads_of_C HR0.out)))
                  have HC187 := Aside0.mk hC13
                  clear hA13 hC13 hi013 hsz13
                  have p188 : 0 ≤ (x4_1 : Int) := of_decide_eq_true (by first | (with_reducible assumption) | assumption)
                  have q188 : x4_1 < (l0.length : Int) := of_decide_eq_true (by first | (with_reducible assumption) | assumption)
                  obtain ⟨ad188, e188, hx188_0⟩ := Kd.at_int HR0.out x4_1 p188 q188
                  obtain rfl : ad185 = ad188 := (by injection e188)
                  replace p188 := eq_true p188
                  replace q188 := eq_true q188
                  have HLN := Aside0.mk (show (l0.take (x4_1 : Int).toNat).length = (x4_1 : Int).toNat from by have h0_ := of_eq_true p188; have h1_ := of_eq_true q188; rw [List.length_take]; omega)
                  go_wp2_with (first | (go_at_call 37; (with_reducible refine (spec_l00In.calls (rd l0 x4_1) 0 (wrap64 ((l0.length : Int) - 1)) true _ A6.out).mono ?_); rintro e w' ⟨rfl, ⟨nd, rfl⟩⟩; (try first | exact ⟨rfl, _, World.drewN_drewN _ _ _⟩ | exact ⟨rfl, _, Eq.trans (World.drewN_drewN _ _ _) (congrArg (World.drewN _) (Nat.add_assoc _ _ _))⟩)) | (go_at_call 66; rw [← HLN.out]; (with_reducible refine (spec_l00Has.calls k1 _ _ (l0.take (x4_1 : Int).toNat) (rd l0 x4_1) false _ ?side1 ?side2 A10.out).mono ?_); (case side1 => repeat (first | exact HR187.out | (with_reducible refine Kd.C_alloc ?_ _) | (with_reducible refine Kd.C_drewN ?_ _) | (with_reducible refine Kd.C_drew ?_))); (case side2 => exact HC187.out); rintro e w' ⟨rfl, ⟨nd, rfl⟩⟩; (try first | exact ⟨rfl, _, World.drewN_drewN _ _ _⟩ | exact ⟨rfl, _, Eq.trans (World.drewN_drewN _ _ _) (congrArg (World.drewN _) (Nat.add_assoc _ _ _))⟩)))
                  repeat (go_quiet (first | (go_at_call 37; (with_reducible refine (spec_l00In.calls (rd l0 x4_1) 0 (wrap64 ((l0.length : Int) - 1)) true _ A6.out).mono ?_); rintro e w' ⟨rfl, ⟨nd, rfl⟩⟩; (try first | exact ⟨rfl, _, World.drewN_drewN _ _ _⟩ | exact ⟨rfl, _, Eq.trans (World.drewN_drewN _ _ _) (congrArg (World.drewN _) (Nat.add_assoc _ _ _))⟩)) | (go_at_call 66; rw [← HLN.out]; (with_reducible refine (spec_l00Has.calls k1 _ _ (l0.take (x4_1 : Int).toNat) (rd l0 x4_1) false _ ?side1 ?side2 A10.out).mono ?_); (case side1 => repeat (first | exact HR187.out | (with_reducible refine Kd.C_alloc ?_ _) | (with_reducible refine Kd.C_drewN ?_ _) | (with_reducible refine Kd.C_drew ?_))); (case side2 => exact HC187.out); rintro e w' ⟨rfl, ⟨nd, rfl⟩⟩; (try first | exact ⟨rfl, _, World.drewN_drewN _ _ _⟩ | exact ⟨rfl, _, Eq.trans (World.drewN_drewN _ _ _) (congrArg (World.drewN _) (Nat.add_assoc _ _ _))⟩))); try go_wp2_with (first | (go_at_call 37; (with_reducible refine (spec_l00In.calls (rd l0 x4_1) 0 (wrap64 ((l0.length : Int) - 1)) true _ A6.out).mono ?_); rintro e w' ⟨rfl, ⟨nd, rfl⟩⟩; (try first | exact ⟨rfl, _, World.drewN_drewN _ _ _⟩ | exact ⟨rfl, _, Eq.trans (World.drewN_drewN _ _ _) (congrArg (World.drewN _) (Nat.add_assoc _ _ _))⟩)) | (go_at_call 66; rw [← HLN.out]; (with_reducible refine (spec_l00Has.calls k1 _ _ (l0.take (x4_1 : Int).toNat) (rd l0 x4_1) false _ ?side1 ?side2 A10.out).mono ?_); (case side1 => repeat (first | exact HR187.out | (with_reducible refine Kd.C_alloc ?_ _) | (with_reducible refine Kd.C_drewN ?_ _) | (with_reducible refine Kd.C_drew ?_))); (case side2 => exact HC187.out); rintro e w' ⟨rfl, ⟨nd, rfl⟩⟩; (try first | exact ⟨rfl, _, World.drewN_drewN _ _ _⟩ | exact ⟨rfl, _, Eq.trans (World.drewN_drewN _ _ _) (congrArg (World.drewN _) (Nat.add_assoc _ _ _))⟩))))
                  go_roundg k1
                  case measure => have := HK1.out; omega
                  case rel => exact ⟨(wrap64 (x4_1 + 1)), (by first | rfl | (simp; done) | (simp [*]; done)), H', ⟨by have := HK1.out; omega⟩, by repeat (first | exact Drawn0.refl _ | apply Drawn0.step)⟩
              · rw [if_neg c9] at H
                exact absurd H (by simp)
            · replace c7 := Bool.eq_false_iff.mpr c7
              subst c7
              have H1 : (some false) = some r := by rw [if_neg (show ¬ (false = true) by decide)] at H; exact H
              clear H
              have H := H1
              clear H1
              obtain rfl := Option.some.inj H
              have p185 : 0 ≤ (x4_1 : Int) := of_decide_eq_true (by first | (with_reducible assumption) | assumption)
              have q185 : x4_1 < (l0.length : Int) := of_decide_eq_true (by first | (with_reducible assumption) | assumption)
              obtain ⟨ad185, e185, hx185_0⟩ := Kd.at_int HR0.out x4_1 p185 q185
              cases e185
              replace p185 := eq_true p185
              replace q185 := eq_true q185
              go_wp2_with (first | (go_at_call 37; (with_reducible refine (spec_l00In.calls (rd l0 x4_1) 0 (wrap64 ((l0.length : Int) - 1)) false _ A6.out).mono ?_); rintro e w' ⟨rfl, ⟨nd, rfl⟩⟩; (try first | exact ⟨rfl, _, World.drewN_drewN _ _ _⟩ | exact ⟨rfl, _, Eq.trans (World.drewN_drewN _ _ _) (congrArg (World.drewN _) (Nat.add_assoc _ _ _))⟩)))
              repeat (go_quiet (first | (go_at_call 37; (with_reducible refine (spec_l00In.calls (rd l0 x4_1) 0 (wrap64 ((l0.length : Int) - 1)) false _ A6.out).mono ?_); rintro e w' ⟨rfl, ⟨nd, rfl⟩⟩; (try first | exact ⟨rfl, _, World.drewN_drewN _ _ _⟩ | exact ⟨rfl, _, Eq.trans (World.drewN_drewN _ _ _) (congrArg (World.drewN _) (Nat.add_assoc _ _ _))⟩))); try go_wp2_with (first | (go_at_call 37; (with_reducible refine (spec_l00In.calls (rd l0 x4_1) 0 (wrap64 ((l0.length : Int) - 1)) false _ A6.out).mono ?_); rintro e w' ⟨rfl, ⟨nd, rfl⟩⟩; (try first | exact ⟨rfl, _, World.drewN_drewN _ _ _⟩ | exact ⟨rfl, _, Eq.trans (World.drewN_drewN _ _ _) (congrArg (World.drewN _) (Nat.add_assoc _ _ _))⟩))))
              go_ret
              exact ⟨by first | rfl | (simp; done) | (simp [*]; done), by repeat (first | exact Drawn0.refl _ | apply Drawn0.step)⟩
          · rw [if_neg c5] at H
            exact absurd H (by simp)
        · rw [if_neg c4] at H
          have c4b0 : decide (x4_1 < (l0.length : Int)) = false := decide_eq_false c4
          clear c4
          obtain rfl := Option.some.inj H
          go_wp2
          repeat (go_quiet (fail); try go_wp2)
          go_ret
          exact ⟨by first | rfl | (simp; done) | (simp [*]; done), by repeat (first | exact Drawn0.refl _ | apply Drawn0.step)⟩
  · replace c3 := Bool.eq_false_iff.mpr c3
    subst c3
    have H1 : (some false) = some r := by rw [if_neg (show ¬ (false = true) by decide)] at H; exact H
    clear H
    have H := H1
    clear H1
    obtain rfl := Option.some.inj H
    go_enter Try.func48, Try.ntmps48
    go_wp2_with (first | (go_at_call 37; (with_reducible refine (spec_l00In.calls (l0.length : Int) 2 12 false _ A2.out).mono ?_); rintro e w' ⟨rfl, ⟨nd, rfl⟩⟩; (try first | exact ⟨rfl, _, World.drewN_drewN _ _ _⟩ | exact ⟨rfl, _, Eq.trans (World.drewN_drewN _ _ _) (congrArg (World.drewN _) (Nat.add_assoc _ _ _))⟩)))
    repeat (go_quiet (first | (go_at_call 37; (with_reducible refine (spec_l00In.calls (l0.length : Int) 2 12 false _ A2.out).mono ?_); rintro e w' ⟨rfl, ⟨nd, rfl⟩⟩; (try first | exact ⟨rfl, _, World.drewN_drewN _ _ _⟩ | exact ⟨rfl, _, Eq.trans (World.drewN_drewN _ _ _) (congrArg (World.drewN _) (Nat.add_assoc _ _ _))⟩))); try go_wp2_with (first | (go_at_call 37; (with_reducible refine (spec_l00In.calls (l0.length : Int) 2 12 false _ A2.out).mono ?_); rintro e w' ⟨rfl, ⟨nd, rfl⟩⟩; (try first | exact ⟨rfl, _, World.drewN_drewN _ _ _⟩ | exact ⟨rfl, _, Eq.trans (World.drewN_drewN _ _ _) (congrArg (World.drewN _) (Nat.add_assoc _ _ _))⟩))))
    go_ret
    exact ⟨by first | rfl | (simp; done) | (simp [*]; done), by repeat (first | exact Drawn0.refl _ | apply Drawn0.step)⟩

/-! ### spec_l18Code: function 53 -/
def spec_l18Code.f (k : Nat) (l0 : List Int) (a1 : Int) (a2 : Int) : Option (Int) := (spec_l18Ok.f k l0).bind fun t190 => (if t190 = true then ((spec_l18Times.f a1 a2).bind fun t191 => (if t191 = true then (some 0) else (some 2))) else (some 1))
theorem spec_l18Code.mono : ∀ a0 a1 a2 k, LeO (spec_l18Code.f k a0 a1 a2) (spec_l18Code.f (k + 1) a0 a1 a2) := by
  intro a0 a1 a2 k
  unfold spec_l18Code.f
  repeat' first
      | (with_reducible exact spec_l18Ok.mono _ _)
      | (with_reducible exact LeO.refl _)
      | (with_reducible exact LeO.none _)
      | (with_reducible refine LeO.ite ?_ ?_)
      | (with_reducible refine LeO.bind ?_ (fun _ => ?_))
      | exact spec_l18Ok.mono _ _
      | exact LeO.none _
      | refine LeO.ite ?_ ?_
      | refine LeO.bind ?_ (fun _ => ?_)
set_option maxHeartbeats 8000000 in
set_option maxRecDepth 100000 in
theorem spec_l18Code.calls (k : Nat) (A0 : Option Addr) (c0 : Nat) (l0 : List Int) (a1 : Int) (a2 : Int) (r : Int) (w : World) (hr0 : Kd.C (Kd.int .i64) w A0 l0.length l0) (hc0 : l0.length ≤ c0) (h : spec_l18Code.f k l0 a1 a2 = some r) :
    Calls Try.prog 53 #[.slice A0 l0.length c0, .int .i64 a1, .int .i64 a2] w fun e w' => e = .returned (.int .i64 r) ∧ Drawn0 w w' := by
  have HR0 := Aside0.mk hr0
  have HC0 := Aside0.mk hc0
  clear hr0 hc0
  have H : ((spec_l18Ok.f k l0).bind fun t190 => (if t190 = true then ((spec_l18Times.f a1 a2).bind fun t191 => (if t191 = true then (some 0) else (some 2))) else (some 1))) = some r := h
  clear h
  replace H := Option.bind_eq_some_iff.mp H
  obtain ⟨t190, A40, H⟩ := H
  replace H : (if t190 = true then ((spec_l18Times.f a1 a2).bind fun t191 => (if t191 = true then (some 0) else (some 2))) else (some 1)) = some r := H
  have A4 := Aside0.mk A40
  clear A40
  by_cases c5 : t190 = true
  · subst c5
    have H1 : ((spec_l18Times.f a1 a2).bind fun t191 => (if t191 = true then (some 0) else (some 2))) = some r := by rw [if_pos rfl] at H; exact H
    clear H
    have H := H1
    clear H1
    replace H := Option.bind_eq_some_iff.mp H
    obtain ⟨t191, A60, H⟩ := H
    replace H : (if t191 = true then (some 0) else (some 2)) = some r := H
    have A6 := Aside0.mk A60
    clear A60
    by_cases c7 : t191 = true
    · subst c7
      have H1 : (some 0) = some r := by rw [if_pos rfl] at H; exact H
      clear H
      have H := H1
      clear H1
      obtain rfl := Option.some.inj H
      go_enter Try.func53, Try.ntmps53
      go_wp2_with (first | ((with_reducible refine gate_callee (f := 48) rfl ?_); refine goesL_ (some 8) rfl rfl Try.func48 (by kernel_rfl) rfl #[.slice A0 l0.length c0] rfl (by (try simp only [List.map_toArray, List.map_cons, List.map_nil]); first | done | rfl | (simp only [List.length_drop, List.length_take]; rfl)) ?_; (with_reducible refine (spec_l18Ok.calls k _ _ l0 true _ ?side1 ?side2 A4.out).mono ?_); (case side1 => repeat (first | exact HR0.out | (with_reducible refine Kd.C_alloc ?_ _) | (with_reducible refine Kd.C_drewN ?_ _) | (with_reducible refine Kd.C_drew ?_))); (case side2 => exact HC0.out); rintro e w' ⟨rfl, ⟨nd, rfl⟩⟩; refine ⟨_, rfl, ?_⟩) | ((with_reducible refine gate_callee (f := 41) rfl ?_); refine goesL_ (some 12) rfl rfl Try.func41 (by kernel_rfl) rfl #[.int .i64 a1, .int .i64 a2] rfl (by (try simp only [List.map_toArray, List.map_cons, List.map_nil]); first | done | rfl | (simp only [List.length_drop, List.length_take]; rfl)) ?_; (with_reducible refine (spec_l18Times.calls a1 a2 true _ A6.out).mono ?_); rintro e w' ⟨rfl, ⟨nd, rfl⟩⟩; refine ⟨_, rfl, ?_⟩))
      go_ret
      exact ⟨by first | rfl | (simp; done) | (simp [*]; done), by repeat (first | exact Drawn0.refl _ | apply Drawn0.step)⟩
    · replace c7 := Bool.eq_false_iff.mpr c7
      subst c7
      have H1 : (some 2) = some r := by rw [if_neg (show ¬ (false = true) by decide)] at H; exact H
      clear H
      have H := H1
      clear H1
      obtain rfl := Option.some.inj H
      go_enter Try.func53, Try.ntmps53
      go_wp2_with (first | ((with_reducible refine gate_callee (f := 48) rfl ?_); refine goesL_ (some 8) rfl rfl Try.func48 (by kernel_rfl) rfl #[.slice A0 l0.length c0] rfl (by (try simp only [List.map_toArray, List.map_cons, List.map_nil]); first | done | rfl | (simp only [List.length_drop, List.length_take]; rfl)) ?_; (with_reducible refine (spec_l18Ok.calls k _ _ l0 true _ ?side1 ?side2 A4.out).mono ?_); (case side1 => repeat (first | exact HR0.out | (with_reducible refine Kd.C_alloc ?_ _) | (with_reducible refine Kd.C_drewN ?_ _) | (with_reducible refine Kd.C_drew ?_))); (case side2 => exact HC0.out); rintro e w' ⟨rfl, ⟨nd, rfl⟩⟩; refine ⟨_, rfl, ?_⟩) | ((with_reducible refine gate_callee (f := 41) rfl ?_); refine goesL_ (some 12) rfl rfl Try.func41 (by kernel_rfl) rfl #[.int .i64 a1, .int .i64 a2] rfl (by (try simp only [List.map_toArray, List.map_cons, List.map_nil]); first | done | rfl | (simp only [List.length_drop, List.length_take]; rfl)) ?_; (with_reducible refine (spec_l18Times.calls a1 a2 false _ A6.out).mono ?_); rintro e w' ⟨rfl, ⟨nd, rfl⟩⟩; refine ⟨_, rfl, ?_⟩))
      go_ret
      exact ⟨by first | rfl | (simp; done) | (simp [*]; done), by repeat (first | exact Drawn0.refl _ | apply Drawn0.step)⟩
  · replace c5 := Bool.eq_false_iff.mpr c5
    subst c5
    have H1 : (some 1) = some r := by rw [if_neg (show ¬ (false = true) by decide)] at H; exact H
    clear H
    have H := H1
    clear H1
    obtain rfl := Option.some.inj H
    go_enter Try.func53, Try.ntmps53
    go_wp2_with (first | ((with_reducible refine gate_callee (f := 48) rfl ?_); refine goesL_ (some 8) rfl rfl Try.func48 (by kernel_rfl) rfl #[.slice A0 l0.length c0] rfl (by (try simp only [List.map_toArray, List.map_cons, List.map_nil]); first | done | rfl | (simp only [List.length_drop, List.length_take]; rfl)) ?_; (with_reducible refine (spec_l18Ok.calls k _ _ l0 false _ ?side1 ?side2 A4.out).mono ?_); (case side1 => repeat (first | exact HR0.out | (with_reducible refine Kd.C_alloc ?_ _) | (with_reducible refine Kd.C_drewN ?_ _) | (with_reducible refine Kd.C_drew ?_))); (case side2 => exact HC0.out); rintro e w' ⟨rfl, ⟨nd, rfl⟩⟩; refine ⟨_, rfl, ?_⟩))
    go_ret
    exact ⟨by first | rfl | (simp; done) | (simp [*]; done), by repeat (first | exact Drawn0.refl _ | apply Drawn0.step)⟩

/-! ### spec_StartsOfPasting: function 25 -/
def spec_StartsOfPasting.f (k : Nat) (l0 : List Int) (a1 : Int) (a2 : Int) : Option (List Int × Int) := (spec_l18Code.f k l0 a1 a2).bind fun t192 => (if t192 = 0 then ((spec_l18Starts.f k l0 a1 a2).bind fun t193 => (some (t193, 0))) else (some (([] : List Int), t192)))
theorem spec_StartsOfPasting.mono : ∀ a0 a1 a2 k, LeO (spec_StartsOfPasting.f k a0 a1 a2) (spec_StartsOfPasting.f (k + 1) a0 a1 a2) := by
  intro a0 a1 a2 k
  unfold spec_StartsOfPasting.f
  repeat' first
      | (with_reducible exact spec_l18Code.mono _ _ _ _)
      | (with_reducible exact spec_l18Starts.mono _ _ _ _)
      | (with_reducible exact LeO.refl _)
      | (with_reducible exact LeO.none _)
      | (with_reducible refine LeO.ite ?_ ?_)
      | (with_reducible refine LeO.bind ?_ (fun _ => ?_))
      | exact spec_l18Code.mono _ _ _ _
      | exact spec_l18Starts.mono _ _ _ _
      | exact LeO.none _
      | refine LeO.ite ?_ ?_
      | refine LeO.bind ?_ (fun _ => ?_)
set_option maxHeartbeats 8000000 in
set_option maxRecDepth 100000 in
theorem spec_StartsOfPasting.calls (k : Nat) (A0 : Option Addr) (c0 : Nat) (l0 : List Int) (a1 : Int) (a2 : Int) (r1 : List Int) (r2 : Int) (w : World) (hr0 : Kd.C (Kd.int .i64) w A0 l0.length l0) (hc0 : l0.length ≤ c0) (h : spec_StartsOfPasting.f k l0 a1 a2 = some (r1, r2)) :
    Calls Try.prog 25 #[.slice A0 l0.length c0, .int .i64 a1, .int .i64 a2] w fun e w' => ∃ v0_ : Value, e = .returned (.tuple #[v0_, .int .i64 r2]) ∧ Kd.R (Kd.int .i64) 2 w' w.heap.size (fun _ => True) v0_ r1 ∧ Below w.heap.size w w' := by
  have HR0 := Aside0.mk hr0
  have HC0 := Aside0.mk hc0
  clear hr0 hc0
  have HB := Aside0.mk (Below.refl w.heap.size w)
  have H : ((spec_l18Code.f k l0 a1 a2).bind fun t192 => (if t192 = 0 then ((spec_l18Starts.f k l0 a1 a2).bind fun t193 => (some (t193, 0))) else (some (([] : List Int), t192)))) = some (r1, r2) := h
  clear h
  replace H := Option.bind_eq_some_iff.mp H
  obtain ⟨t192, A40, H⟩ := H
  replace H : (if t192 = 0 then ((spec_l18Starts.f k l0 a1 a2).bind fun t193 => (some (t193, 0))) else (some (([] : List Int), t192))) = some (r1, r2) := H
  have A4 := Aside0.mk A40
  clear A40
  by_cases c5 : t192 = 0
  · rw [if_pos c5] at H
    have c5b0 : (t192 == 0) = true := beq_iff_eq.mpr c5
    have c5b1 : (t192 != 0) = false := bne_eq_false_iff_eq.mpr c5
    clear c5
    replace H := Option.bind_eq_some_iff.mp H
    obtain ⟨t193, A60, H⟩ := H
    replace H : (some (t193, 0)) = some (r1, r2) := H
    have A6 := Aside0.mk A60
    clear A60
    simp only [Option.some.injEq, Prod.mk.injEq] at H
    obtain ⟨rfl, rfl⟩ := H
    go_enter Try.func25, Try.ntmps25
    go_wp2_with (first | ((with_reducible refine gate_callee (f := 53) rfl ?_); refine goesL_ (some 12) rfl rfl Try.func53 (by kernel_rfl) rfl #[.slice A0 l0.length c0, .int .i64 a1, .int .i64 a2] rfl (by (try simp only [List.map_toArray, List.map_cons, List.map_nil]); first | done | rfl | (simp only [List.length_drop, List.length_take]; rfl)) ?_; (with_reducible refine (spec_l18Code.calls k _ _ l0 a1 a2 t192 _ ?side1 ?side2 A4.out).mono ?_); (case side1 => repeat (first | exact HR0.out | (with_reducible refine Kd.C_alloc ?_ _) | (with_reducible refine Kd.C_drewN ?_ _) | (with_reducible refine Kd.C_drew ?_))); (case side2 => exact HC0.out); rintro e w' ⟨rfl, ⟨nd, rfl⟩⟩; refine ⟨_, rfl, ?_⟩) | ((with_reducible refine gate_callee (f := 54) rfl ?_); refine goesL_ (some 19) rfl rfl Try.func54 (by kernel_rfl) rfl #[.slice A0 l0.length c0, .int .i64 a1, .int .i64 a2] rfl (by (try simp only [List.map_toArray, List.map_cons, List.map_nil]); first | done | rfl | (simp only [List.length_drop, List.length_take]; rfl)) ?_; (with_reducible refine (spec_l18Starts.calls k _ _ l0 a1 a2 t193 _ ?side1 ?side2 A6.out).mono ?_); (case side1 => repeat (first | exact HR0.out | (with_reducible refine Kd.C_alloc ?_ _) | (with_reducible refine Kd.C_drewN ?_ _) | (with_reducible refine Kd.C_drew ?_))); (case side2 => exact HC0.out); rintro e w7 ⟨v194, rfl, ho0, hb⟩; refine ⟨_, rfl, ?_⟩; have n0_ := Aside0.mk (Kd.R_lower ho0 (below_size (by repeat (first | (with_reducible first | exact HB.out | apply below_alloc | apply pw_below_drewN | apply below_drew1) | exact HB.out)))); have n1_ := Aside0.mk (below_step (by repeat (first | (with_reducible first | exact HB.out | apply below_alloc | apply pw_below_drewN | apply below_drew1) | exact HB.out)) hb); clear HB; have HO195 := n0_; have HB := n1_; clear n0_ n1_; (try clear hb); (try clear hb2); (try clear hk); (try clear hi); (try clear ho0)))
    go_ret2
    exact ⟨_, by first | rfl | (simp [errW_none, errW_some] <;> rfl) | (simp [*, errW_none, errW_some] <;> rfl), by (with_reducible repeat (first | apply Kd.R_alloc | apply Kd.R_drewN | apply Kd.R_drew)); exact HO195.out, by repeat (first | (with_reducible first | exact HB.out | apply below_alloc | apply pw_below_drewN | apply below_drew1) | exact HB.out)⟩
  · rw [if_neg c5] at H
    have c5b0 : (t192 == 0) = false := beq_eq_false_iff_ne.mpr c5
    have c5b1 : (t192 != 0) = true := bne_iff_ne.mpr c5
    simp only [Option.some.injEq, Prod.mk.injEq] at H
    obtain ⟨rfl, rfl⟩ := H
    go_enter Try.func25, Try.ntmps25
    go_wp2_with (first | ((with_reducible refine gate_callee (f := 53) rfl ?_); refine goesL_ (some 12) rfl rfl Try.func53 (by kernel_rfl) rfl #[.slice A0 l0.length c0, .int .i64 a1, .int .i64 a2] rfl (by (try simp only [List.map_toArray, List.map_cons, List.map_nil]); first | done | rfl | (simp only [List.length_drop, List.length_take]; rfl)) ?_; (with_reducible refine (spec_l18Code.calls k _ _ l0 a1 a2 t192 _ ?side1 ?side2 A4.out).mono ?_); (case side1 => repeat (first | exact HR0.out | (with_reducible refine Kd.C_alloc ?_ _) | (with_reducible refine Kd.C_drewN ?_ _) | (with_reducible refine Kd.C_drew ?_))); (case side2 => exact HC0.out); rintro e w' ⟨rfl, ⟨nd, rfl⟩⟩; refine ⟨_, rfl, ?_⟩))
    go_ret2
    exact ⟨_, by first | rfl | (simp [errW_none, errW_some] <;> rfl) | (simp [*, errW_none, errW_some] <;> rfl), by first | exact Kd.R_nil _ _ _ _ _ | exact Kd.N_nil _ _ _ _ _ | exact Kd.V_nil _ _ _ _ _ | exact Kd.Q_nil _ _ _ _ _ | exact Kd.S_nil _ _ _ _ _, by repeat (first | (with_reducible first | exact HB.out | apply below_alloc | apply pw_below_drewN | apply below_drew1) | exact HB.out)⟩

/-! ### impl_ascending: function 49 -/
/-- The different numbers of a list, in ascending order. -/
def ascL (l : List Int) : List Int := Lib.compactUpTo (l.mergeSort fun x y => decide (x ≤ y)).toArray l.length
def impl_ascending.f (l0 : List Int) : Option (List Int) := if l0.length < 17592186044416 then some (ascL l0) else none
set_option maxHeartbeats 1000000 in
theorem compact_few (p : Option Addr) (c : Nat) (w : World) : Calls Try.prog 71 #[.slice p 0 c] w fun e w' => e = .returned (.slice p 0 c) ∧ w' = w := by
  go_enter Try.func71, Try.ntmps71
  go_wp2
  go_ret
  exact ⟨rfl, rfl⟩
theorem asc_len (l : List Int) : (ascL l).length ≤ l.length := by
  unfold ascL Lib.compactUpTo
  rw [List.length_map]
  exact Nat.le_trans (List.length_filter_le _ _) (by simp)
set_option maxHeartbeats 4000000 in
/-- Sorted, then cut: the same slice, its numbers the different ones of the list in ascending order. -/
theorem sort_compact (g c1 base : Nat) (l0 : List Int) (w1 : World) (hp : 0 < l0.length) (hl : l0.length < 17592186044416) (h : Kd.R (Kd.int .i64) 2 w1 base (fun _ => True) (.slice (some ⟨g, 0, none⟩) l0.length c1) l0) :
    Calls Try.prog 70 #[.slice (some ⟨g, 0, none⟩) l0.length c1] w1 fun e w2 => e = .returned (.tuple #[]) ∧ Below base w1 w2 ∧ Calls Try.prog 71 #[.slice (some ⟨g, 0, none⟩) l0.length c1] w2 fun e w3 => ∃ v, e = .returned v ∧ Kd.R (Kd.int .i64) 2 w3 base (fun _ => True) v (ascL l0) ∧ Below base w1 w3 := by
  have ho : w1.ownsRow base 2 1 (.slice (some ⟨g, 0, none⟩) l0.length c1) l0.length (l0.map (Value.int .i64)) := Kd.own_of_R h
  have hv : (Value.slice (some ⟨g, 0, none⟩) l0.length c1) ≠ .slice none 0 0 := by simp
  obtain ⟨g', cap', e, hbase, hlt, hn, hm, _, hH⟩ := Lib.holds_of_ownsRow (enc := Value.int .i64) ho hv
  injection e with e1 _ e3
  injection e1 with e1
  injection e1 with e1
  subst e1
  subst e3
  have hsl : (l0.mergeSort fun x y => decide (x ≤ y)).length = l0.length := List.length_mergeSort _
  refine (AnyM.slices_Sort_int Try.sort70 g 0 c1 l0 w1 hH hlt (by omega)).mono ?_
  rintro e w2 ⟨rfl, n, os, rfl⟩
  have hcell : ∃ cur, w1.heap[g]? = some (.cells cur 2 (0, 0)) ∧ cur.size = c1 * 1 := by
    rcases ho.2 with ⟨h0, _⟩ | ⟨g', cap, cur, h0, _, hb, _, _, hs, _⟩
    · cases h0
    · injection h0 with e1 _ e3
      injection e1 with e1
      injection e1 with e1
      subst e1
      subst e3
      exact ⟨cur, hb, hs⟩
  obtain ⟨cur, hcur, hcs⟩ := hcell
  have ho2 := ownsRow_sortedI (n := n) (os := os) hsl hbase hcur hn hm hcs
  have hb2 : Below base w1 (Sort.grow (Sort.putRow (Value.int .i64) (Sort.ahead w1 n) g 0 (l0.mergeSort fun x y => decide (x ≤ y)).toArray) os) := (Below.refl base w1).grown (grownBy_sortedI _) (by omega) (fun j e => by cases e; exact hbase)
  refine ⟨rfl, hb2, ?_⟩
  generalize Sort.grow (Sort.putRow (Value.int .i64) (Sort.ahead w1 n) g 0 (l0.mergeSort fun x y => decide (x ≤ y)).toArray) os = w2 at ho2 hb2 ⊢
  unfold ascL
  generalize (l0.mergeSort fun x y => decide (x ≤ y)) = S at hsl ho2 ⊢
  obtain ⟨g', cap', e, _, hlt2, _, _, _, hH2⟩ := Lib.holds_of_ownsRow (enc := Value.int .i64) ho2 hv
  injection e with e1 _ e3
  injection e1 with e1
  injection e1 with e1
  subst e1
  subst e3
  have hc := AnyE.slices_Compact Try.compact71 (Value.int .i64) (fun _ => rfl) (EqlAt.intD _ _ .i64) (NeqAt.intD _ _ .i64) 0 Try.zeroValue2 g 0 c1 S.toArray w2 hH2 (by simp; omega) (by simp; omega)
  rw [show S.toArray.size = l0.length from by simpa using hsl] at hc
  refine hc.mono ?_
  rintro e w3 ⟨rfl, q, rfl⟩
  have hcl : (Lib.compactUpTo S.toArray l0.length).length ≤ l0.length := by
    unfold Lib.compactUpTo
    rw [List.length_map]
    exact Nat.le_trans (List.length_filter_le _ _) (by simp)
  generalize Lib.compactUpTo S.toArray l0.length = C at hcl ⊢
  have ho3 := Lib.ownsRow_putRow (q := q) (k := C.length) (ys := C ++ List.replicate (l0.length - C.length) 0) ho2 (by simp; omega) hcl
  rw [List.take_left'  rfl] at ho3
  exact ⟨_, rfl, Kd.R_of_own ho3 (fun _ _ => trivial), Lib.below_putRow hb2 hbase⟩
set_option maxHeartbeats 4000000 in
set_option maxRecDepth 100000 in
theorem impl_ascending.calls (A0 : Option Addr) (c0 : Nat) (l0 : List Int) (r : List Int) (w : World) (hr0 : Kd.C (Kd.int .i64) w A0 l0.length l0) (hc0 : l0.length ≤ c0) (h : impl_ascending.f l0 = some r) :
    Calls Try.prog 49 #[.slice A0 l0.length c0] w fun e w' => ∃ v0_ : Value, e = .returned (v0_) ∧ Kd.R (Kd.int .i64) 2 w' w.heap.size (fun _ => True) v0_ r ∧ Below w.heap.size w w' := by
  unfold impl_ascending.f at h
  by_cases hl : l0.length < 17592186044416
  case neg => rw [if_neg hl] at h; exact absurd h (by simp)
  rw [if_pos hl] at h
  obtain rfl := Option.some.inj h
  clear h
  have hcl := slices_Clone_int64_int64.calls A0 c0 l0 l0 w hr0 hc0 (by unfold slices_Clone_int64_int64.f; rw [if_pos hl])
  by_cases h0 : l0 = []
  · subst h0
    have he : ascL [] = [] := rfl
    rw [he]
    have HB := Aside0.mk (Below.refl w.heap.size w)
    have HCL := Aside0.mk hcl
    clear hcl hr0 hc0
    go_enter Try.func49, Try.ntmps49
    go_wp2_with (first | (go_at_call 47; refine HCL.out.mono ?_; rintro e w1 ⟨v1, rfl, hr, hb⟩; obtain ⟨A1, c1, rfl⟩ := Kd.R_slice hr; have HR := Aside0.mk hr; have HB1 := Aside0.mk hb; clear hr hb; rw [List.length_nil] at HR ⊢) | (go_at_call 70; refine (AnyM.slices_Sort_int_none Try.sort70 _ _ _).mono ?_; rintro e w2 ⟨rfl, rfl⟩) | (go_at_call 71; refine (compact_few _ _ _).mono ?_; rintro e w3 ⟨rfl, rfl⟩))
    go_ret
    exact ⟨_, rfl, HR.out, HB1.out⟩
  · have hp : 0 < l0.length := List.length_pos_iff.2 h0
    have HCL := Aside0.mk hcl
    have HP := Aside0.mk hp
    have HL := Aside0.mk hl
    clear hcl hr0 hc0 h0 hp hl
    go_enter Try.func49, Try.ntmps49
    go_wp2_with (first | (go_at_call 47; refine HCL.out.mono ?_; rintro e w1 ⟨v1, rfl, hr, hb⟩; obtain ⟨g, c1, rfl, _⟩ := Kd.R_form hr HP.out; have HSC := Aside0.mk (sort_compact g c1 w.heap.size l0 w1 HP.out HL.out hr); have HB1 := Aside0.mk hb; clear hr hb) | (go_at_call 70; refine HSC.out.mono ?_; rintro e w2 ⟨rfl, _, hc⟩; have HC := Aside0.mk hc; clear hc) | (go_at_call 71; refine HC.out.mono ?_; rintro e w3 ⟨v3, rfl, hr, hb⟩; have HR := Aside0.mk hr; have HB3 := Aside0.mk hb; clear hr hb))
    go_ret
    exact ⟨_, rfl, HR.out, HB1.out.trans HB3.out⟩


end Go.Proofs.Ytfpddpkloplpeaa.QFnPasting
