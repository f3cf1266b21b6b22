/- Walks of the Go functions that the law FnExactQuickOrder reaches: written by a program of this session. -/
import Derived.Test.YtfpddpkloplpeaaQFnExactQuickOrderx0
import Derived.Test.YtfpddpkloplpeaaQFnExactQuickOrderx1
import Derived.Test.YtfpddpkloplpeaaQFnExactQuickOrderx2
import Derived.Test.YtfpddpkloplpeaaQFnExactQuickOrderx3
namespace Go.Proofs.Ytfpddpkloplpeaa.QFnExactQuickOrder
open Go.RowKit Go.Proofs.YtfpddpkloplpeaaW.PrintWords Go.Proofs.YtfpddpkloplpeaaW.PrintLast Go.Proofs.YtfpddpkloplpeaaW.PrintMore
attribute [local go_sem] max2_int min2_int max_two min_two max_three min_three max_four min_four   -- for this text's walks alone
set_option linter.unusedVariables false
set_option linter.unusedSimpArgs false

/-! ### impl_QuickOrder: function 19 -/
/-- What visits an order; what puts the next gore. Their boxes stand at fixed places behind the call's begin. -/
def visF (w0 : World) : Value := .func (.func 45) #[] #[.pointer (some ⟨w0.heap.size, 0, none⟩), .pointer (some ⟨w0.heap.size + 1, 0, none⟩), .pointer (some ⟨w0.heap.size + 4, 0, none⟩), .pointer (some ⟨w0.heap.size + 3, 0, none⟩)]
def putF (w0 : World) : Value := .func (.func 67) #[] #[.pointer (some ⟨w0.heap.size + 8, 0, none⟩), .pointer (some ⟨w0.heap.size + 5, 0, none⟩), .pointer (some ⟨w0.heap.size + 6, 0, none⟩), .pointer (some ⟨w0.heap.size + 9, 0, none⟩)]
def okI (s k : Nat) : Prop := k ≠ s ∧ k ≠ s + 1 ∧ k ≠ s + 3 ∧ k ≠ s + 4 ∧ k ≠ s + 5 ∧ k ≠ s + 6 ∧ k ≠ s + 8 ∧ k ≠ s + 9
def IQ (w0 W : World) (vO vB : Value) (n e d : Int) (o b : List Int) (t : Int) : Prop := (W.heap[w0.heap.size]? = some (.cells #[.int .i64 e] 2 (0, 0)) ∧ W.heap[w0.heap.size + 1]? = some (.cells #[.int .i64 d] 2 (0, 0)) ∧ W.heap[w0.heap.size + 3]? = some (.cells #[vB] 25 (0, 0)) ∧ W.heap[w0.heap.size + 4]? = some (.cells #[.int .i64 t] 2 (0, 0)) ∧ W.heap[w0.heap.size + 5]? = some (.cells #[.int .i64 n] 2 (0, 0)) ∧ W.heap[w0.heap.size + 6]? = some (.cells #[visF w0] 55 (0, 0)) ∧ W.heap[w0.heap.size + 8]? = some (.cells #[vO] 25 (0, 0)) ∧ W.heap[w0.heap.size + 9]? = some (.cells #[putF w0] 1 (0, 0))) ∧ Kd.R (Kd.int .i64) 2 W w0.heap.size (okI w0.heap.size) vO o ∧ Kd.R (Kd.int .i64) 2 W w0.heap.size (fun k => okI w0.heap.size k ∧ some k ≠ vO.ownBlock) vB b ∧ Below w0.heap.size w0 W
def IS (w0 W : World) (n e d : Int) (o b : List Int) (t : Int) : Prop := ∃ vO vB : Value, IQ w0 W vO vB n e d o b t
theorem IQ.below {w0 W W1 : World} {vO vB : Value} {n e d : Int} {o b : List Int} {t : Int} (h : IQ w0 W vO vB n e d o b t) (hb1 : Below W.heap.size W W1) : IQ w0 W1 vO vB n e d o b t := by
  obtain ⟨⟨b0, b1, b3, b4, b5, b6, b8, b9⟩, hO, hB, hb⟩ := h
  exact ⟨⟨blk_below b0 hb1, blk_below b1 hb1, blk_below b3 hb1, blk_below b4 hb1, blk_below b5 hb1, blk_below b6 hb1, blk_below b8 hb1, blk_below b9 hb1⟩, Kd.R_below hO hb1, Kd.R_below hB hb1, below_then hb hb.size hb1⟩
theorem IS.below {w0 W W1 : World} {n e d : Int} {o b : List Int} {t : Int} (h : IS w0 W n e d o b t) (hb1 : Below W.heap.size W W1) : IS w0 W1 n e d o b t := by
  obtain ⟨vO, vB, h⟩ := h
  exact ⟨vO, vB, h.below hb1⟩
theorem IS.drew {w0 W : World} {n e d : Int} {o b : List Int} {t : Int} (h : IS w0 W n e d o b t) : IS w0 W.drew n e d o b t := h.below (below_drew (Below.refl _ _))
theorem IS.drewN {w0 W : World} {n e d : Int} {o b : List Int} {t : Int} (h : IS w0 W n e d o b t) (q : Nat) : IS w0 (W.drewN q) n e d o b t := h.below (pw_below_drewN (Below.refl _ _) q)
/-- Another best order, one that was made just now. -/
theorem IS.found {w0 W W1 : World} {n e d : Int} {o b : List Int} {t t' : Int} {y : List Int} {vN : Value} (h : IS w0 W n e d o b t) (hN : Kd.R (Kd.int .i64) 2 W1 W.heap.size (fun _ => True) vN y) (hb1 : Below W.heap.size W W1) : IS w0 ((W1.setCell ⟨w0.heap.size + 3, 0, none⟩ vN).setCell ⟨w0.heap.size + 4, 0, none⟩ (.int .i64 t')) n e d o y t' := by
  obtain ⟨vO, vB, ⟨⟨b0, b1, b3, b4, b5, b6, b8, b9⟩, hO, hB, hb⟩⟩ := h
  have hl := blk_lt b9
  have hn : Kd.R (Kd.int .i64) 2 W1 w0.heap.size (fun k => okI w0.heap.size k ∧ some k ≠ vO.ownBlock) vN y :=
    Kd.R_mono (Kd.R_lower (Kd.R_bound (Kd.R_new' (u := vO) hN (Kd.R_lt hO))) hb.size) (fun k hk => by
      have h1 := hk.2.1
      refine ⟨?_, hk.1.2⟩
      unfold okI
      omega)
  exact ⟨vO, vN, ⟨blk_far (blk_far (blk_below b0 hb1) (by intro e_; dsimp only at e_; omega) _) (by intro e_; dsimp only at e_; omega) _, blk_far (blk_far (blk_below b1 hb1) (by intro e_; dsimp only at e_; omega) _) (by intro e_; dsimp only at e_; omega) _, blk_far (blk_put (blk_below b3 hb1) 0 _ rfl) (by intro e_; dsimp only at e_; omega) _, blk_put (blk_far (blk_below b4 hb1) (by intro e_; dsimp only at e_; omega) _) 0 _ rfl, blk_far (blk_far (blk_below b5 hb1) (by intro e_; dsimp only at e_; omega) _) (by intro e_; dsimp only at e_; omega) _, blk_far (blk_far (blk_below b6 hb1) (by intro e_; dsimp only at e_; omega) _) (by intro e_; dsimp only at e_; omega) _, blk_far (blk_far (blk_below b8 hb1) (by intro e_; dsimp only at e_; omega) _) (by intro e_; dsimp only at e_; omega) _, blk_far (blk_far (blk_below b9 hb1) (by intro e_; dsimp only at e_; omega) _) (by intro e_; dsimp only at e_; omega) _⟩, Kd.R_far (Kd.R_far (Kd.R_below hO hb1) (fun k hk => hk.2.2.1) _) (fun k hk => hk.2.2.2.1) _, Kd.R_far (Kd.R_far hn (fun k hk => hk.1.2.2.1) _) (fun k hk => hk.1.2.2.2.1) _, ((below_then hb hb.size hb1).setCell (by show _ ≤ _ + 3; omega) _).setCell (by show _ ≤ _ + 4; omega) _⟩
/-- The order grows. -/
theorem IQ.grown {w0 W W1 : World} {n e d : Int} {o b : List Int} {t x : Int} {vO vB v1 : Value} (h : IQ w0 W vO vB n e d o b t)
    (ho : Kd.R (Kd.int .i64) 2 W1 w0.heap.size (okI w0.heap.size) v1 (o ++ [x])) (hb1 : Below w0.heap.size w0 W1) (hg : W.grownBy W1 vO.ownBlock) (hat : v1.ownBlock = vO.ownBlock ∨ ∃ b, v1.ownBlock = some b ∧ W.heap.size ≤ b) : IS w0 (W1.setCell ⟨w0.heap.size + 8, 0, none⟩ v1) n e d (o ++ [x]) b t := by
  obtain ⟨⟨b0, b1, b3, b4, b5, b6, b8, b9⟩, hO, hB, hb⟩ := h
  exact ⟨v1, vB, ⟨blk_far (blk_grown b0 hg (fun e => by have := hO.1 _ e.symm; unfold okI at this; omega)) (by intro e_; dsimp only at e_; omega) _, blk_far (blk_grown b1 hg (fun e => by have := hO.1 _ e.symm; unfold okI at this; omega)) (by intro e_; dsimp only at e_; omega) _, blk_far (blk_grown b3 hg (fun e => by have := hO.1 _ e.symm; unfold okI at this; omega)) (by intro e_; dsimp only at e_; omega) _, blk_far (blk_grown b4 hg (fun e => by have := hO.1 _ e.symm; unfold okI at this; omega)) (by intro e_; dsimp only at e_; omega) _, blk_far (blk_grown b5 hg (fun e => by have := hO.1 _ e.symm; unfold okI at this; omega)) (by intro e_; dsimp only at e_; omega) _, blk_far (blk_grown b6 hg (fun e => by have := hO.1 _ e.symm; unfold okI at this; omega)) (by intro e_; dsimp only at e_; omega) _, blk_put (blk_grown b8 hg (fun e => by have := hO.1 _ e.symm; unfold okI at this; omega)) 0 _ rfl, blk_far (blk_grown b9 hg (fun e => by have := hO.1 _ e.symm; unfold okI at this; omega)) (by intro e_; dsimp only at e_; omega) _⟩, Kd.R_far ho (fun k hk => hk.2.2.2.2.2.2.1) _, Kd.R_far (Kd.R_after hB hg hat) (fun k hk => hk.1.2.2.2.2.2.2.1) _, hb1.setCell (by show _ ≤ _ + 8; omega) _⟩
/-- The order is what it was. -/
theorem IQ.back {w0 W : World} {n e d : Int} {o b : List Int} {t x : Int} {A : Option Addr} {m c : Nat} {vB : Value} (h : IQ w0 W (.slice A m c) vB n e d (o ++ [x]) b t) : IS w0 (W.setCell ⟨w0.heap.size + 8, 0, none⟩ (.slice A o.length c)) n e d o b t := by
  obtain ⟨⟨b0, b1, b3, b4, b5, b6, b8, b9⟩, hO, hB, hb⟩ := h
  have ht := Kd.R_take (m := o.length) hO (by simp)
  rw [List.take_left' rfl] at ht
  have he : (Value.slice A m c).ownBlock = (Value.slice A o.length c).ownBlock := by cases A <;> rfl
  rw [he] at hB
  exact ⟨_, vB, ⟨blk_far b0 (by intro e_; dsimp only at e_; omega) _, blk_far b1 (by intro e_; dsimp only at e_; omega) _, blk_far b3 (by intro e_; dsimp only at e_; omega) _, blk_far b4 (by intro e_; dsimp only at e_; omega) _, blk_far b5 (by intro e_; dsimp only at e_; omega) _, blk_far b6 (by intro e_; dsimp only at e_; omega) _, blk_put b8 0 _ rfl, blk_far b9 (by intro e_; dsimp only at e_; omega) _⟩, Kd.R_far ht (fun k hk => hk.2.2.2.2.2.2.1) _, Kd.R_far hB (fun k hk => hk.1.2.2.2.2.2.2.1) _, hb.setCell (by show _ ≤ _ + 8; omega) _⟩
/-- What the walk reads. -/
theorem IS.opened {w0 W : World} {n e d : Int} {o b : List Int} {t : Int} (h : IS w0 W n e d o b t) : ∃ (A : Option Addr) (c : Nat) (A2 : Option Addr) (c2 : Nat), (W.cell? ⟨w0.heap.size, 0, none⟩ = some (.int .i64 e) ∧ W.cell? ⟨w0.heap.size + 1, 0, none⟩ = some (.int .i64 d) ∧ W.cell? ⟨w0.heap.size + 3, 0, none⟩ = some (.slice A2 b.length c2) ∧ W.cell? ⟨w0.heap.size + 4, 0, none⟩ = some (.int .i64 t) ∧ W.cell? ⟨w0.heap.size + 5, 0, none⟩ = some (.int .i64 n) ∧ W.cell? ⟨w0.heap.size + 6, 0, none⟩ = some (visF w0) ∧ W.cell? ⟨w0.heap.size + 8, 0, none⟩ = some (.slice A o.length c) ∧ W.cell? ⟨w0.heap.size + 9, 0, none⟩ = some (putF w0)) ∧ (W.frozen? ⟨w0.heap.size + 3, 0, none⟩ = false ∧ W.frozen? ⟨w0.heap.size + 4, 0, none⟩ = false ∧ W.frozen? ⟨w0.heap.size + 8, 0, none⟩ = false) ∧ Aside0 (Kd.C (Kd.int .i64) W A o.length o) ∧ Aside0 (o.length ≤ c) ∧ Aside0 (IQ w0 W (.slice A o.length c) (.slice A2 b.length c2) n e d o b t) := by
  obtain ⟨vO, vB, h⟩ := h
  have h0 := h
  obtain ⟨⟨b0, b1, b3, b4, b5, b6, b8, b9⟩, hO, hB, hb⟩ := h
  obtain ⟨A, c, rfl, hc, hC⟩ := Kd.R_reads hO
  obtain ⟨A2, c2, rfl, _, _⟩ := Kd.R_reads hB
  exact ⟨A, c, A2, c2, ⟨(blk_cell b0 0).trans rfl, (blk_cell b1 0).trans rfl, (blk_cell b3 0).trans rfl, (blk_cell b4 0).trans rfl, (blk_cell b5 0).trans rfl, (blk_cell b6 0).trans rfl, (blk_cell b8 0).trans rfl, (blk_cell b9 0).trans rfl⟩, ⟨blk_frozen b3 0, blk_frozen b4 0, blk_frozen b8 0⟩, ⟨hC⟩, ⟨hc⟩, ⟨h0⟩⟩
def iq_visit (k : Nat) (e d : Int) (o b : List Int) (t : Int) : Option (List Int × Int) := (impl_endOfPasting.f k o e d).bind fun x => if t < 0 then ((slices_Clone_int64_int64.f o).bind fun y => some (y, x)) else (if x < t then ((slices_Clone_int64_int64.f o).bind fun y => some (y, x)) else some (b, t))
mutual
def iq_put : Nat → Int → Int → Int → List Int → List Int → Int → Option (List Int × Int)
  | 0, _, _, _, _, _, _ => none
  | k + 1, n, e, d, o, b, t => if (o.length : Int) = n then ((iq_visit k e d o b t).bind fun r => iq_loop k n e d o r.1 r.2 0) else iq_loop k n e d o b t 0
def iq_loop : Nat → Int → Int → Int → List Int → List Int → Int → Int → Option (List Int × Int)
  | 0, _, _, _, _, _, _, _ => none
  | k + 1, n, e, d, o, b, t, g => if g < n then ((slices_Contains_int64_int64.f k o g).bind fun h => if h = true then iq_loop k n e d o b t (wrap64 (g + 1)) else (if o.length < 1000 then ((iq_put k n e d (o ++ [g]) b t).bind fun r => iq_loop k n e d o r.1 r.2 (wrap64 (g + 1))) else none)) else some (b, t)
end
theorem iq_visit_mono (k : Nat) (e d : Int) (o b : List Int) (t : Int) : LeO (iq_visit k e d o b t) (iq_visit (k + 1) e d o b t) := LeO.bind (impl_endOfPasting.mono _ _ _ _) (fun _ => LeO.refl _)
theorem iq_mono : ∀ k, (∀ n e d o b t, LeO (iq_put k n e d o b t) (iq_put (k + 1) n e d o b t)) ∧ (∀ n e d o b t g, LeO (iq_loop k n e d o b t g) (iq_loop (k + 1) n e d o b t g))
  | 0 => ⟨fun _ _ _ _ _ _ r h => by simp [iq_put] at h, fun _ _ _ _ _ _ _ r h => by simp [iq_loop] at h⟩
  | k + 1 => by
    obtain ⟨i1, i2⟩ := iq_mono k
    constructor
    · intro n e d o b t
      rw [iq_put, iq_put]
      repeat' first
        | (with_reducible exact i1 _ _ _ _ _ _)
        | (with_reducible exact i2 _ _ _ _ _ _ _)
        | (with_reducible exact iq_visit_mono _ _ _ _ _ _)
        | (with_reducible exact LeO.refl _)
        | (with_reducible refine LeO.ite ?_ ?_)
        | (with_reducible refine LeO.bind ?_ (fun _ => ?_))
    · intro n e d o b t g
      rw [iq_loop, iq_loop]
      repeat' first
        | (with_reducible exact i1 _ _ _ _ _ _)
        | (with_reducible exact i2 _ _ _ _ _ _ _)
        | (with_reducible exact slices_Contains_int64_int64.mono _ _ _)
        | (with_reducible exact LeO.refl _)
        | (with_reducible refine LeO.ite ?_ ?_)
        | (with_reducible refine LeO.bind ?_ (fun _ => ?_))
def impl_QuickOrder.f (k : Nat) (a0 a1 a2 : Int) : Option (List Int × Int × Int) := (impl_within.f a0 2 7).bind fun x => if x = true then ((impl_isWork.f a1 a2).bind fun y => if y = true then ((iq_put k a0 a1 a2 [] [] (-1)).bind fun r => some (r.1, r.2, 0)) else some ([], 0, 2)) else some ([], 0, 2)
theorem impl_QuickOrder.mono : ∀ a0 a1 a2 k, LeO (impl_QuickOrder.f k a0 a1 a2) (impl_QuickOrder.f (k + 1) a0 a1 a2) := fun _ _ _ k => LeO.bind (LeO.refl _) (fun _ => LeO.ite (LeO.bind (LeO.refl _) (fun _ => LeO.ite (LeO.bind ((iq_mono k).1 _ _ _ _ _ _) (fun _ => LeO.refl _)) (LeO.refl _))) (LeO.refl _))
theorem IQ.found2 {w0 W W1 : World} {n e d : Int} {o b : List Int} {t : Int} {y : List Int} {vN : Value} (h : IS w0 W n e d o b t) (hN : Kd.R (Kd.int .i64) 2 W1 W.heap.size (fun _ => True) vN y) (hb1 : Below W.heap.size W W1) (t' : Int) : IS w0 ((W1.setCell ⟨w0.heap.size + 3, 0, none⟩ vN).setCell ⟨w0.heap.size + 4, 0, none⟩ (.int .i64 t')) n e d o y t' := h.found hN hb1
set_option maxRecDepth 100000 in
set_option maxHeartbeats 8000000 in
theorem iq_visit_calls (w0 : World) (n e d : Int) (k : Nat) (o b : List Int) (t : Int) (r : List Int × Int) (W : World) (A : Option Addr) (c : Nat) (hQ : IS w0 W n e d o b t) (h3 : W.cell? ⟨w0.heap.size + 8, 0, none⟩ = some (.slice A o.length c)) (h : iq_visit k e d o b t = some r) :
    Calls Try.prog 45 (#[.slice A o.length c] ++ #[.pointer (some ⟨w0.heap.size, 0, none⟩), .pointer (some ⟨w0.heap.size + 1, 0, none⟩), .pointer (some ⟨w0.heap.size + 4, 0, none⟩), .pointer (some ⟨w0.heap.size + 3, 0, none⟩)]) W fun x w' => x = .returned (.tuple #[]) ∧ IS w0 w' n e d o r.1 r.2 := by
  have HQ := Aside0.mk hQ
  obtain ⟨A1, c1, A2, c2, ⟨z0, z1, z3, z4, z5, z6, z8, z9⟩, ⟨f3, f4, f8⟩, HC, HCC, HI⟩ := hQ.opened
  rw [h3] at z8
  obtain ⟨rfl, -, rfl⟩ : A1 = A ∧ True ∧ c1 = c := by have := Option.some.inj z8; injection this with q1 q2 q3; exact ⟨q1.symm, trivial, q3.symm⟩
  clear hQ h3
  unfold iq_visit at h
  obtain ⟨x, hx, h⟩ := Option.bind_eq_some_iff.mp h
  have HX := Aside0.mk hx
  clear hx z5 z6 z9
  by_cases c1_ : t < 0
  · rw [if_pos c1_] at h
    obtain ⟨y, hy, h⟩ := Option.bind_eq_some_iff.mp h
    obtain rfl := Option.some.inj h
    have c1b : decide (t < 0) = true := decide_eq_true c1_
    have HY := Aside0.mk hy
    clear hy h c1_
    go_enter Try.func45, Try.ntmps45
    go_wp2_with (first | (go_at_call 46; refine (impl_endOfPasting.calls k _ _ o e d x _ HC.out HCC.out HX.out).mono ?_; rintro e_ w1 ⟨rfl, hb1⟩; have HQ1 := Aside0.mk (HQ.out.below hb1); have HC1 := Aside0.mk (Kd.C_below HC.out hb1); clear hb1 HQ z0 z1 z3 z4 z8 f3 f4 f8 HC HI; obtain ⟨A9, c9, A2, c2, ⟨z0, z1, z3, z4, z5, z6, z8, z9⟩, ⟨f3, f4, f8⟩, HC, HCC9, HI⟩ := HQ1.out.opened; clear z5 z6 z8 z9) | (go_at_call 47; refine (slices_Clone_int64_int64.calls _ _ o y _ HC1.out HCC.out HY.out).mono ?_; rintro e_ w2 ⟨vN, rfl, hN, hb2⟩; obtain ⟨AN, cN, rfl, _, _⟩ := Kd.R_reads hN; have HN := Aside0.mk (IQ.found2 HQ1.out hN hb2 x); have HQ3 := Aside0.mk (HQ1.out.below hb2); clear hN hb2 HQ1 z0 z1 z3 z4 f3 f4 f8 HC HC1 HI; obtain ⟨A9, c9, A2, c2, ⟨z0, z1, z3, z4, z5, z6, z8, z9⟩, ⟨f3, f4, f8⟩, HC, HCC9, HI⟩ := HQ3.out.opened; clear z5 z6 z8 z9))
    first | go_end0 | (refine bodyPost_ret (results_none rfl _ _ _) rfl ?_)
    exact ⟨rfl, HN.out⟩
  · rw [if_neg c1_] at h
    have c1b : decide (t < 0) = false := decide_eq_false c1_
    clear c1_
    by_cases c2_ : x < t
    · rw [if_pos c2_] at h
      obtain ⟨y, hy, h⟩ := Option.bind_eq_some_iff.mp h
      obtain rfl := Option.some.inj h
      have c2b : decide (x < t) = true := decide_eq_true c2_
      have HY := Aside0.mk hy
      clear hy h c2_
      go_enter Try.func45, Try.ntmps45
      go_wp2_with (first | (go_at_call 46; refine (impl_endOfPasting.calls k _ _ o e d x _ HC.out HCC.out HX.out).mono ?_; rintro e_ w1 ⟨rfl, hb1⟩; have HQ1 := Aside0.mk (HQ.out.below hb1); have HC1 := Aside0.mk (Kd.C_below HC.out hb1); clear hb1 HQ z0 z1 z3 z4 z8 f3 f4 f8 HC HI; obtain ⟨A9, c9, A2, c2, ⟨z0, z1, z3, z4, z5, z6, z8, z9⟩, ⟨f3, f4, f8⟩, HC, HCC9, HI⟩ := HQ1.out.opened; clear z5 z6 z8 z9) | (go_at_call 47; refine (slices_Clone_int64_int64.calls _ _ o y _ HC1.out HCC.out HY.out).mono ?_; rintro e_ w2 ⟨vN, rfl, hN, hb2⟩; obtain ⟨AN, cN, rfl, _, _⟩ := Kd.R_reads hN; have HN := Aside0.mk (IQ.found2 HQ1.out hN hb2 x); have HQ3 := Aside0.mk (HQ1.out.below hb2); clear hN hb2 HQ1 z0 z1 z3 z4 f3 f4 f8 HC HC1 HI; obtain ⟨A9, c9, A2, c2, ⟨z0, z1, z3, z4, z5, z6, z8, z9⟩, ⟨f3, f4, f8⟩, HC, HCC9, HI⟩ := HQ3.out.opened; clear z5 z6 z8 z9))
      first | go_end0 | (refine bodyPost_ret (results_none rfl _ _ _) rfl ?_)
      exact ⟨rfl, HN.out⟩
    · rw [if_neg c2_] at h
      obtain rfl := Option.some.inj h
      have c2b : decide (x < t) = false := decide_eq_false c2_
      clear h c2_
      go_enter Try.func45, Try.ntmps45
      go_wp2_with (first | (go_at_call 46; refine (impl_endOfPasting.calls k _ _ o e d x _ HC.out HCC.out HX.out).mono ?_; rintro e_ w1 ⟨rfl, hb1⟩; have HQ1 := Aside0.mk (HQ.out.below hb1); have HC1 := Aside0.mk (Kd.C_below HC.out hb1); clear hb1 HQ z0 z1 z3 z4 z8 f3 f4 f8 HC HI; obtain ⟨A9, c9, A2, c2, ⟨z0, z1, z3, z4, z5, z6, z8, z9⟩, ⟨f3, f4, f8⟩, HC, HCC9, HI⟩ := HQ1.out.opened; clear z5 z6 z8 z9))
      first | go_end0 | (refine bodyPost_ret (results_none rfl _ _ _) rfl ?_)
      exact ⟨rfl, HQ1.out⟩
set_option maxRecDepth 100000 in
set_option maxHeartbeats 8000000 in
theorem iq_put_calls (w0 : World) (n e d : Int) : ∀ (k : Nat) (o b : List Int) (t : Int) (r : List Int × Int) (W : World), IS w0 W n e d o b t → iq_put k n e d o b t = some r →
    Calls Try.prog 67 #[.pointer (some ⟨w0.heap.size + 8, 0, none⟩), .pointer (some ⟨w0.heap.size + 5, 0, none⟩), .pointer (some ⟨w0.heap.size + 6, 0, none⟩), .pointer (some ⟨w0.heap.size + 9, 0, none⟩)] W fun x w' => x = .returned (.tuple #[]) ∧ IS w0 w' n e d o r.1 r.2 := by
  have eg1 : ∀ args w, (callFunc 45 args).run Try.prog w = .ok (.enter 45 args) w := Go.Proofs.Ytfpddpkloplpeaa.Hand.enters Try.func45 (by kernel_rfl) rfl
  have eg2 : ∀ args w, (callFunc 67 args).run Try.prog w = .ok (.enter 67 args) w := Go.Proofs.Ytfpddpkloplpeaa.Hand.enters Try.func67 (by kernel_rfl) rfl
  intro k
  induction k using Nat.strongRecOn with
  | ind k ih =>
  intro o b t r W hQ h
  cases k with
  | zero => exact absurd h (by simp [iq_put])
  | succ k =>
    have IH := Aside0.mk ih
    clear ih
    have HQ := Aside0.mk hQ
    obtain ⟨A1, c1, A2, c2, ⟨z0, z1, z3, z4, z5, z6, z8, z9⟩, ⟨f3, f4, f8⟩, HC, HCC, HI⟩ := hQ.opened
    have Z8 := Aside0.mk z8
    simp only [visF] at z6
    clear hQ HC HCC HI z0 z1 z3 z4 z9 f3 f4 f8
    simp only [iq_put] at h
    by_cases c0 : (o.length : Int) = n
    · rw [if_pos c0] at h
      obtain ⟨q, hq, h⟩ := Option.bind_eq_some_iff.mp h
      have HV := Aside0.mk hq
      have H := Aside0.mk h
      have c0b : ((o.length : Int) == n) = true := by simp [c0]
      clear h hq c0
      go_enter Try.func67, Try.ntmps67
      go_wp2_with (first | (go_at_call 45; refine (iq_visit_calls w0 n e d k o b t q W A1 c1 HQ.out Z8.out HV.out).mono ?_; rintro e_ w1 ⟨rfl, hQ1⟩; have HQ1 := Aside0.mk hQ1; clear hQ1 HQ; have HQ := HQ1; clear HQ1 z5 z6 z8; obtain ⟨A7, c7, A2, c2, ⟨z0, z1, z3, z4, z5, z6, z8, z9⟩, ⟨f3, f4, f8⟩, HC, HCC, HI⟩ := HQ.out.opened; clear z0 z1 z3 z4 z6 z8 z9 f3 f4 f8 HC HCC HI))
      clear z5 c0b
      go_loopg [4, 13] k (fun kq v4 v13 w' => ∃ (gI : Int) (b1 : List Int) (t1 : Int), v13 = .int .i64 gI ∧ Aside0 (iq_loop kq n e d o b1 t1 gI = some r) ∧ Aside0 (kq ≤ k) ∧ Aside0 (IS w0 w' n e d o b1 t1))
      case atStart => exact ⟨0, _, _, rfl, H, ⟨Nat.le_refl _⟩, HQ⟩
      case round =>
        clear H HQ
        obtain ⟨gI, b1, t1, rfl, HA, HK, HQ⟩ := hrel
        cases gk with
        | zero => exact absurd HA.out (by simp [iq_loop])
        | succ k2 =>
          have h := HA.out
          clear HA
          simp only [iq_loop] at h
          obtain ⟨A1, c1, A2, c2, ⟨z0, z1, z3, z4, z5, z6, z8, z9⟩, ⟨f3, f4, f8⟩, HC, HCC, HI⟩ := HQ.out.opened
          clear z0 z1 z3 z4 z6 z9 f3 f4
          by_cases c5 : gI < n
          · rw [if_pos c5] at h
            have c5b : decide (gI < n) = true := decide_eq_true c5
            clear c5
            obtain ⟨hh, hHas, h⟩ := Option.bind_eq_some_iff.mp h
            have HAS := Aside0.mk hHas
            clear hHas
            cases hh with
            | true =>
              rw [if_pos rfl] at h
              have H := Aside0.mk h
              clear h
              go_wp2_with (go_at_call 68; refine (slices_Contains_int64_int64.calls k2 _ _ o gI true _ HC.out HCC.out HAS.out).mono ?_; rintro e_ w1 ⟨rfl, ⟨nd, rfl⟩⟩)
              go_roundg k2
              case measure => omega
              case rel => exact ⟨_, b1, t1, rfl, H, ⟨by have := HK.out; omega⟩, ⟨HQ.out.drewN nd⟩⟩
            | false =>
              rw [if_neg (by simp)] at h
              by_cases c6 : o.length < 1000
              · rw [if_pos c6] at h
                obtain ⟨r2, hw, h⟩ := Option.bind_eq_some_iff.mp h
                have HW := Aside0.mk hw
                have H := Aside0.mk h
                have C6 := Aside0.mk c6
                clear h hw c6
                go_wp2_with (first | (go_at_call 68; refine (slices_Contains_int64_int64.calls k2 _ _ o gI false _ HC.out HCC.out HAS.out).mono ?_; rintro e_ w1 ⟨rfl, ⟨nd, rfl⟩⟩; have HI2 := Aside0.mk (HI.out.below (pw_below_drewN (Below.refl _ _) nd)); clear HI) | ((with_reducible refine gate_builtin (b := .append) (xs := #[.tmp 20, .tmp 22]) rfl ?_); at_builtin; refine Kd.R_append (Kd.int .i64) (w0 := w0) w0.heap.size rfl (.tmp 20) (.tmp 22) 25 2 (.int .i64 0) 8 rfl Try.underlying25 info2 rfl (by decide) (by omega) (.slice A1 o.length c1) o gI [.int .i64 gI] (okI w0.heap.size) (fun _ => False) rfl rfl ?aP (fun _ hk => hk.elim) ?aF ?aO ?aB ?aS ?aL ?_; (case aP => exact rfl); (case aF => exact fun k_ hk => by have := blk_lt HI2.out.1.2.2.2.2.2.2.2; unfold okI; omega); (case aO => exact HI2.out.2.1); (case aB => exact HI2.out.2.2.2); (case aS => exact HI2.out.2.2.2.size); (case aL => have := C6.out; omega); intro v1 w2 ho hb hg hat; obtain ⟨A5, c5, rfl, _, _⟩ := Kd.R_reads ho; have hG0 := IQ.grown HI2.out ho hb hg hat; simp only [List.length_append, List.length_cons, List.length_nil, Nat.zero_add] at hG0; have HG := Aside0.mk hG0; clear hG0; have hne_ : ∀ k_, (k_ = w0.heap.size + 8 ∨ k_ = w0.heap.size + 9) → some k_ ≠ (Value.slice A1 o.length c1).ownBlock := fun k_ hk_ e_ => (by have := HI2.out.2.1.1 _ e_.symm; unfold okI at this; omega); have y8 : w2.cell? ⟨w0.heap.size + 8, 0, none⟩ = some (.slice A1 o.length c1) := (blk_cell (blk_grown HI2.out.1.2.2.2.2.2.2.1 hg (hne_ _ (.inl rfl))) 0).trans rfl; have y8f := blk_frozen (blk_grown HI2.out.1.2.2.2.2.2.2.1 hg (hne_ _ (.inl rfl))) 0; have y9 : w2.cell? ⟨w0.heap.size + 9, 0, none⟩ = some (putF w0) := (blk_cell (blk_grown HI2.out.1.2.2.2.2.2.2.2 hg (hne_ _ (.inr rfl))) 0).trans rfl; simp only [putF] at y9; clear ho hb hg hat hne_ z5 z8 f8 HC HCC) | (go_at_call 67; refine (IH.out k2 (by have := HK.out; omega) (o ++ [gI]) b1 t1 r2 _ HG.out HW.out).mono ?_; rintro e_ w3 ⟨rfl, hQ3⟩; have HQ3 := Aside0.mk hQ3; clear hQ3 y8 y8f y9 HI2 HG; obtain ⟨A3, c3, A4, c4, ⟨y0, y1, y3, y4, y5, y6, y8, y9⟩, ⟨g3, g4, g8⟩, HC3, HCC3, HI3⟩ := HQ3.out.opened; clear y0 y1 y3 y4 y5 y6 y9 g3 g4; have HB := Aside0.mk HI3.out.back; have s1 : (o.length : Int) ≤ (c3 : Int) := (by have := HCC3.out; simp at this; omega); obtain ⟨m, hm⟩ : ∃ m : Nat, (o ++ [gI]).length = m := ⟨_, rfl⟩; have hm1 : m = o.length + 1 := (by rw [← hm]; simp); rw [hm] at y8; have hw1 : wrap64 ((m : Int) - 1) = (o.length : Int) := (by have := C6.out; unfold wrap64; omega); have hw2 : IntKind.i64.wrap ((m : Int) - 1) = (o.length : Int) := (by rw [i64_w]; exact hw1); have HM := Aside0.mk hm; clear hm hm1))
                go_roundg k2
                case measure => omega
                case rel => exact ⟨_, r2.1, r2.2, rfl, H, ⟨by have := HK.out; omega⟩, HB⟩
              · rw [if_neg c6] at h
                exact absurd h (by simp)
          · rw [if_neg c5] at h
            have c5b : decide (gI < n) = false := decide_eq_false c5
            clear c5
            obtain rfl := Option.some.inj h
            clear h
            go_wp2
            first | go_end0 | (simp only [Exit.inBlock, Exit.then]; refine bodyPost_ret (results_none rfl _ _ _) rfl ?_) | trace_state
            exact ⟨rfl, HQ.out⟩
    · rw [if_neg c0] at h
      have H := Aside0.mk h
      have c0b : ((o.length : Int) == n) = false := by simp [c0]
      clear h c0
      go_enter Try.func67, Try.ntmps67
      go_wp2
      clear z5 z6 z8 c0b
      go_loopg [4, 13] k (fun kq v4 v13 w' => ∃ (gI : Int) (b1 : List Int) (t1 : Int), v13 = .int .i64 gI ∧ Aside0 (iq_loop kq n e d o b1 t1 gI = some r) ∧ Aside0 (kq ≤ k) ∧ Aside0 (IS w0 w' n e d o b1 t1))
      case atStart => exact ⟨0, _, _, rfl, H, ⟨Nat.le_refl _⟩, HQ⟩
      case round =>
        clear H HQ
        obtain ⟨gI, b1, t1, rfl, HA, HK, HQ⟩ := hrel
        cases gk with
        | zero => exact absurd HA.out (by simp [iq_loop])
        | succ k2 =>
          have h := HA.out
          clear HA
          simp only [iq_loop] at h
          obtain ⟨A1, c1, A2, c2, ⟨z0, z1, z3, z4, z5, z6, z8, z9⟩, ⟨f3, f4, f8⟩, HC, HCC, HI⟩ := HQ.out.opened
          clear z0 z1 z3 z4 z6 z9 f3 f4
          by_cases c5 : gI < n
          · rw [if_pos c5] at h
            have c5b : decide (gI < n) = true := decide_eq_true c5
            clear c5
            obtain ⟨hh, hHas, h⟩ := Option.bind_eq_some_iff.mp h
            have HAS := Aside0.mk hHas
            clear hHas
            cases hh with
            | true =>
              rw [if_pos rfl] at h
              have H := Aside0.mk h
              clear h
              go_wp2_with (go_at_call 68; refine (slices_Contains_int64_int64.calls k2 _ _ o gI true _ HC.out HCC.out HAS.out).mono ?_; rintro e_ w1 ⟨rfl, ⟨nd, rfl⟩⟩)
              go_roundg k2
              case measure => omega
              case rel => exact ⟨_, b1, t1, rfl, H, ⟨by have := HK.out; omega⟩, ⟨HQ.out.drewN nd⟩⟩
            | false =>
              rw [if_neg (by simp)] at h
              by_cases c6 : o.length < 1000
              · rw [if_pos c6] at h
                obtain ⟨r2, hw, h⟩ := Option.bind_eq_some_iff.mp h
                have HW := Aside0.mk hw
                have H := Aside0.mk h
                have C6 := Aside0.mk c6
                clear h hw c6
                go_wp2_with (first | (go_at_call 68; refine (slices_Contains_int64_int64.calls k2 _ _ o gI false _ HC.out HCC.out HAS.out).mono ?_; rintro e_ w1 ⟨rfl, ⟨nd, rfl⟩⟩; have HI2 := Aside0.mk (HI.out.below (pw_below_drewN (Below.refl _ _) nd)); clear HI) | ((with_reducible refine gate_builtin (b := .append) (xs := #[.tmp 20, .tmp 22]) rfl ?_); at_builtin; refine Kd.R_append (Kd.int .i64) (w0 := w0) w0.heap.size rfl (.tmp 20) (.tmp 22) 25 2 (.int .i64 0) 8 rfl Try.underlying25 info2 rfl (by decide) (by omega) (.slice A1 o.length c1) o gI [.int .i64 gI] (okI w0.heap.size) (fun _ => False) rfl rfl ?aP (fun _ hk => hk.elim) ?aF ?aO ?aB ?aS ?aL ?_; (case aP => exact rfl); (case aF => exact fun k_ hk => by have := blk_lt HI2.out.1.2.2.2.2.2.2.2; unfold okI; omega); (case aO => exact HI2.out.2.1); (case aB => exact HI2.out.2.2.2); (case aS => exact HI2.out.2.2.2.size); (case aL => have := C6.out; omega); intro v1 w2 ho hb hg hat; obtain ⟨A5, c5, rfl, _, _⟩ := Kd.R_reads ho; have hG0 := IQ.grown HI2.out ho hb hg hat; simp only [List.length_append, List.length_cons, List.length_nil, Nat.zero_add] at hG0; have HG := Aside0.mk hG0; clear hG0; have hne_ : ∀ k_, (k_ = w0.heap.size + 8 ∨ k_ = w0.heap.size + 9) → some k_ ≠ (Value.slice A1 o.length c1).ownBlock := fun k_ hk_ e_ => (by have := HI2.out.2.1.1 _ e_.symm; unfold okI at this; omega); have y8 : w2.cell? ⟨w0.heap.size + 8, 0, none⟩ = some (.slice A1 o.length c1) := (blk_cell (blk_grown HI2.out.1.2.2.2.2.2.2.1 hg (hne_ _ (.inl rfl))) 0).trans rfl; have y8f := blk_frozen (blk_grown HI2.out.1.2.2.2.2.2.2.1 hg (hne_ _ (.inl rfl))) 0; have y9 : w2.cell? ⟨w0.heap.size + 9, 0, none⟩ = some (putF w0) := (blk_cell (blk_grown HI2.out.1.2.2.2.2.2.2.2 hg (hne_ _ (.inr rfl))) 0).trans rfl; simp only [putF] at y9; clear ho hb hg hat hne_ z5 z8 f8 HC HCC) | (go_at_call 67; refine (IH.out k2 (by have := HK.out; omega) (o ++ [gI]) b1 t1 r2 _ HG.out HW.out).mono ?_; rintro e_ w3 ⟨rfl, hQ3⟩; have HQ3 := Aside0.mk hQ3; clear hQ3 y8 y8f y9 HI2 HG; obtain ⟨A3, c3, A4, c4, ⟨y0, y1, y3, y4, y5, y6, y8, y9⟩, ⟨g3, g4, g8⟩, HC3, HCC3, HI3⟩ := HQ3.out.opened; clear y0 y1 y3 y4 y5 y6 y9 g3 g4; have HB := Aside0.mk HI3.out.back; have s1 : (o.length : Int) ≤ (c3 : Int) := (by have := HCC3.out; simp at this; omega); obtain ⟨m, hm⟩ : ∃ m : Nat, (o ++ [gI]).length = m := ⟨_, rfl⟩; have hm1 : m = o.length + 1 := (by rw [← hm]; simp); rw [hm] at y8; have hw1 : wrap64 ((m : Int) - 1) = (o.length : Int) := (by have := C6.out; unfold wrap64; omega); have hw2 : IntKind.i64.wrap ((m : Int) - 1) = (o.length : Int) := (by rw [i64_w]; exact hw1); have HM := Aside0.mk hm; clear hm hm1))
                go_roundg k2
                case measure => omega
                case rel => exact ⟨_, r2.1, r2.2, rfl, H, ⟨by have := HK.out; omega⟩, HB⟩
              · rw [if_neg c6] at h
                exact absurd h (by simp)
          · rw [if_neg c5] at h
            have c5b : decide (gI < n) = false := decide_eq_false c5
            clear c5
            obtain rfl := Option.some.inj h
            clear h
            go_wp2
            first | go_end0 | (simp only [Exit.inBlock, Exit.then]; refine bodyPost_ret (results_none rfl _ _ _) rfl ?_) | trace_state
            exact ⟨rfl, HQ.out⟩
theorem size5 (w : World) (m : Nat) (o1 o2 o3 o4 o5 : Obj) : (((((w.alloc o1).alloc o2).drewN m).alloc o3).alloc o4 |>.alloc o5).heap.size = w.heap.size + 5 := by
  have e1 : ∀ (W : World) (o : Obj), (W.alloc o).heap.size = W.heap.size + 1 := fun W o => by show (W.heap.push _).size = _; simp
  have hs : ∀ (W : World) (q : Nat), (W.drewN q).heap.size = W.heap.size := fun _ _ => rfl
  rw [e1, e1, e1, hs, e1, e1]
theorem emptyR (w : World) (base : Nat) (hb : base ≤ w.heap.size) : (Kd.int .i64).R 2 (w.alloc (.cells #[] 2)) base (fun k => k = w.heap.size) (.slice (some ⟨w.heap.size, 0, none⟩) 0 0) [] := by
  refine ⟨fun k hk => (Option.some.inj hk).symm, ?_⟩
  have h := OwnRow.lit (R := (Kd.int .i64).M (w.alloc (.cells #[] 2)) base (fun k => k = w.heap.size ∧ some k ≠ (Value.slice (some ⟨w.heap.size, 0, none⟩) 0 0).ownBlock)) (e := 2) (size := 1) (ps := []) w base (inner := []) ?_ hb (by simp)
  · exact h
  · exact Reps.none _ _
set_option maxRecDepth 100000 in
set_option maxHeartbeats 8000000 in
/-- The state at the first put. -/
theorem IS.start (w : World) (m : Nat) (n e d : Int) : IS w (((((((((((w.alloc (.cells #[.int .i64 e] 2)).alloc (.cells #[.int .i64 d] 2)).drewN m).alloc (.cells #[] 2)).alloc (.cells #[.slice (some ⟨w.heap.size + 2, 0, none⟩) 0 0] 25)).alloc (.cells #[.int .i64 (-1)] 2)).alloc (.cells #[.int .i64 n] 2)).alloc (.cells #[visF w] 55)).alloc (.cells #[] 2)).alloc (.cells #[.slice (some ⟨w.heap.size + 7, 0, none⟩) 0 0] 25)).alloc (.cells #[putF w] 1)) n e d [] [] (-1) := by
  have e1 : ∀ (W : World) (o : Obj), (W.alloc o).heap.size = W.heap.size + 1 := fun W o => by show (W.heap.push _).size = _; simp
  have hs : ∀ (W : World) (q : Nat), (W.drewN q).heap.size = W.heap.size := fun _ _ => rfl
  obtain ⟨W2, hW2⟩ : ∃ W2, W2 = ((w.alloc (.cells #[.int .i64 e] 2)).alloc (.cells #[.int .i64 d] 2)).drewN m := ⟨_, rfl⟩
  rw [← hW2]
  have s2 : W2.heap.size = w.heap.size + 2 := by rw [hW2, hs, e1, e1]
  have u2 : Below w.heap.size w W2 := by rw [hW2]; exact pw_below_drewN (below_alloc (below_alloc (Below.refl _ _) _) _) _
  have c0 : W2.heap[w.heap.size]? = some (.cells #[.int .i64 e] 2 (0, 0)) := by rw [hW2]; exact blk_drewN (blk_alloc (blk_new _ _) _) _
  have c1 : W2.heap[w.heap.size + 1]? = some (.cells #[.int .i64 d] 2 (0, 0)) := by
    rw [hW2]; refine blk_drewN ?_ _; have := blk_new (w.alloc (.cells #[.int .i64 e] 2)) (.cells #[.int .i64 d] 2); rw [e1] at this; exact this
  clear hW2
  obtain ⟨W3, hW3⟩ : ∃ W3, W3 = W2.alloc (.cells #[] 2) := ⟨_, rfl⟩
  rw [← hW3]
  have s3 : W3.heap.size = w.heap.size + 3 := by rw [hW3, e1, s2]
  have u3 : Below w.heap.size w W3 := by rw [hW3]; exact below_alloc u2 _
  have r3 : (Kd.int .i64).R 2 W3 w.heap.size (fun k => k = w.heap.size + 2) (.slice (some ⟨w.heap.size + 2, 0, none⟩) 0 0) [] := by
    have := emptyR W2 w.heap.size (by omega); rw [s2] at this; rw [hW3]; exact this
  replace c0 : W3.heap[w.heap.size]? = some (.cells #[.int .i64 e] 2 (0, 0)) := by rw [hW3]; exact blk_alloc c0 _
  replace c1 : W3.heap[w.heap.size + 1]? = some (.cells #[.int .i64 d] 2 (0, 0)) := by rw [hW3]; exact blk_alloc c1 _
  clear hW3
  obtain ⟨W4, hW4⟩ : ∃ W4, W4 = W3.alloc (.cells #[.slice (some ⟨w.heap.size + 2, 0, none⟩) 0 0] 25) := ⟨_, rfl⟩
  rw [← hW4]
  have s4 : W4.heap.size = w.heap.size + 4 := by rw [hW4, e1, s3]
  have c3 : W4.heap[w.heap.size + 3]? = some (.cells #[.slice (some ⟨w.heap.size + 2, 0, none⟩) 0 0] 25 (0, 0)) := by rw [hW4, ← s3]; exact blk_new _ _
  obtain ⟨W5, hW5⟩ : ∃ W5, W5 = W4.alloc (.cells #[.int .i64 (-1)] 2) := ⟨_, rfl⟩
  rw [← hW5]
  have s5 : W5.heap.size = w.heap.size + 5 := by rw [hW5, e1, s4]
  have c4 : W5.heap[w.heap.size + 4]? = some (.cells #[.int .i64 (-1)] 2 (0, 0)) := by rw [hW5, ← s4]; exact blk_new _ _
  obtain ⟨W6, hW6⟩ : ∃ W6, W6 = W5.alloc (.cells #[.int .i64 n] 2) := ⟨_, rfl⟩
  rw [← hW6]
  have s6 : W6.heap.size = w.heap.size + 6 := by rw [hW6, e1, s5]
  have c5 : W6.heap[w.heap.size + 5]? = some (.cells #[.int .i64 n] 2 (0, 0)) := by rw [hW6, ← s5]; exact blk_new _ _
  obtain ⟨W7, hW7⟩ : ∃ W7, W7 = W6.alloc (.cells #[visF w] 55) := ⟨_, rfl⟩
  rw [← hW7]
  have s7 : W7.heap.size = w.heap.size + 7 := by rw [hW7, e1, s6]
  have c6 : W7.heap[w.heap.size + 6]? = some (.cells #[visF w] 55 (0, 0)) := by rw [hW7, ← s6]; exact blk_new _ _
  have b37 : Below W3.heap.size W3 W7 := by rw [hW7, hW6, hW5, hW4]; exact below_alloc (below_alloc (below_alloc (below_alloc (Below.refl _ _) _) _) _) _
  have c3' := blk_below c3 (show Below W4.heap.size W4 W7 by rw [hW7, hW6, hW5]; exact below_alloc (below_alloc (below_alloc (Below.refl _ _) _) _) _)
  have c4' := blk_below c4 (show Below W5.heap.size W5 W7 by rw [hW7, hW6]; exact below_alloc (below_alloc (Below.refl _ _) _) _)
  have c5' := blk_below c5 (show Below W6.heap.size W6 W7 by rw [hW7]; exact below_alloc (Below.refl _ _) _)
  have c0' := blk_below c0 b37
  have c1' := blk_below c1 b37
  have r7 := Kd.R_below r3 b37
  have u7 := below_then u3 u3.size b37
  clear hW4 hW5 hW6 hW7 c0 c1 c3 c4 c5 r3 b37 s4 s5 s6
  have e8 := emptyR W7 W7.heap.size (Nat.le_refl _)
  rw [s7] at e8
  obtain ⟨W8, hW8⟩ : ∃ W8, W8 = W7.alloc (.cells #[] 2) := ⟨_, rfl⟩
  rw [← hW8] at e8 ⊢
  have s8 : W8.heap.size = w.heap.size + 8 := by rw [hW8, e1, s7]
  obtain ⟨W9, hW9⟩ : ∃ W9, W9 = W8.alloc (.cells #[.slice (some ⟨w.heap.size + 7, 0, none⟩) 0 0] 25) := ⟨_, rfl⟩
  rw [← hW9]
  have s9 : W9.heap.size = w.heap.size + 9 := by rw [hW9, e1, s8]
  have c8 : W9.heap[w.heap.size + 8]? = some (.cells #[.slice (some ⟨w.heap.size + 7, 0, none⟩) 0 0] 25 (0, 0)) := by rw [hW9, ← s8]; exact blk_new _ _
  obtain ⟨WA, hWA⟩ : ∃ WA, WA = W9.alloc (.cells #[putF w] 1) := ⟨_, rfl⟩
  rw [← hWA]
  have c9 : WA.heap[w.heap.size + 9]? = some (.cells #[putF w] 1 (0, 0)) := by rw [hWA, ← s9]; exact blk_new _ _
  have b7A : Below W7.heap.size W7 WA := by rw [hWA, hW9, hW8]; exact below_alloc (below_alloc (below_alloc (Below.refl _ _) _) _) _
  have b8A : Below W8.heap.size W8 WA := by rw [hWA, hW9]; exact below_alloc (below_alloc (Below.refl _ _) _) _
  have b9A : Below W9.heap.size W9 WA := by rw [hWA]; exact below_alloc (Below.refl _ _) _
  have rO := Kd.R_below e8 b8A
  have rB := Kd.R_below r7 b7A
  refine ⟨.slice (some ⟨w.heap.size + 7, 0, none⟩) 0 0, .slice (some ⟨w.heap.size + 2, 0, none⟩) 0 0, ⟨blk_below c0' b7A, blk_below c1' b7A, blk_below c3' b7A, blk_below c4' b7A, blk_below c5' b7A, blk_below c6 b7A, blk_below c8 b9A, c9⟩, ?_, ?_, below_then u7 u7.size b7A⟩
  · exact Kd.R_mono (Kd.R_lower rO (show w.heap.size ≤ w.heap.size + 7 by omega)) (fun k hk => by unfold okI; omega)
  · refine Kd.R_mono rB (fun k hk => ⟨by unfold okI; omega, fun e_ => ?_⟩)
    have := Option.some.inj e_
    dsimp only at this
    omega
set_option maxRecDepth 100000 in
set_option maxHeartbeats 8000000 in
theorem eachOrder_calls (w W : World) (m : Nat) (n e d : Int) (k : Nat) (r : List Int × Int) (hs : W.heap.size = w.heap.size + 5) (hW : W = (((((w.alloc (.cells #[.int .i64 e] 2)).alloc (.cells #[.int .i64 d] 2)).drewN m).alloc (.cells #[] 2)).alloc (.cells #[.slice (some ⟨w.heap.size + 2, 0, none⟩) 0 0] 25)).alloc (.cells #[.int .i64 (-1)] 2)) (h : iq_put k n e d [] [] (-1) = some r) :
    Calls Try.prog 44 #[.int .i64 n, visF w] W fun x w' => x = .returned (.tuple #[]) ∧ IS w w' n e d [] r.1 r.2 := by
  have eg2 : ∀ args w, (callFunc 67 args).run Try.prog w = .ok (.enter 67 args) w := Go.Proofs.Ytfpddpkloplpeaa.Hand.enters Try.func67 (by kernel_rfl) rfl
  have hst := IS.start w m n e d
  rw [← hW] at hst
  have hcall : Calls Try.prog 67 #[.pointer (some ⟨W.heap.size + 1 + 1 + 1, 0, none⟩), .pointer (some ⟨W.heap.size, 0, none⟩), .pointer (some ⟨W.heap.size + 1, 0, none⟩), .pointer (some ⟨W.heap.size + 1 + 1 + 1 + 1, 0, none⟩)]
      (((((W.alloc (.cells #[.int .i64 n] 2)).alloc (.cells #[visF w] 55)).alloc (.cells #[] 2)).alloc (.cells #[.slice (some ⟨W.heap.size + 1 + 1, 0, none⟩) 0 0] 25)).alloc (.cells #[.func (.func 67) #[] #[.pointer (some ⟨W.heap.size + 1 + 1 + 1, 0, none⟩), .pointer (some ⟨W.heap.size, 0, none⟩), .pointer (some ⟨W.heap.size + 1, 0, none⟩), .pointer (some ⟨W.heap.size + 1 + 1 + 1 + 1, 0, none⟩)]] 1)) (fun x w' => x = .returned (.tuple #[]) ∧ IS w w' n e d [] r.1 r.2) := by
    rw [hs]
    exact iq_put_calls w n e d k [] [] (-1) r _ hst h
  unfold visF at hcall ⊢
  have HC := Aside0.mk hcall
  clear hs hst hW h hcall
  go_enter Try.func44, Try.ntmps44
  go_wp2_with (go_at_call 67; refine HC.out.mono ?_; rintro e_ w3 ⟨rfl, hQ3⟩; have HQ3 := Aside0.mk hQ3; clear hQ3)
  first | go_end0 | (refine bodyPost_ret (results_none rfl _ _ _) rfl ?_)
  exact ⟨rfl, HQ3.out⟩
set_option maxRecDepth 100000 in
set_option maxHeartbeats 8000000 in
theorem impl_QuickOrder.calls (k : Nat) (a0 a1 a2 : Int) (r1 : List Int) (r2 r3 : Int) (w : World) (h : impl_QuickOrder.f k a0 a1 a2 = some (r1, r2, r3)) :
    Calls Try.prog 19 #[.int .i64 a0, .int .i64 a1, .int .i64 a2] w fun e w' => ∃ v0_ : Value, e = .returned (.tuple #[v0_, .int .i64 r2, .int .i64 r3]) ∧ Kd.R (Kd.int .i64) 2 w' w.heap.size (fun _ => True) v0_ r1 ∧ Below w.heap.size w w' := by
  unfold impl_QuickOrder.f at h
  have eg1 : ∀ args w, (callFunc 45 args).run Try.prog w = .ok (.enter 45 args) w := Go.Proofs.Ytfpddpkloplpeaa.Hand.enters Try.func45 (by kernel_rfl) rfl
  have eg2 : ∀ args w, (callFunc 67 args).run Try.prog w = .ok (.enter 67 args) w := Go.Proofs.Ytfpddpkloplpeaa.Hand.enters Try.func67 (by kernel_rfl) rfl
  obtain ⟨x, hx, h⟩ := Option.bind_eq_some_iff.mp h
  have HX := Aside0.mk hx
  clear hx
  cases x with
  | false =>
    rw [if_neg (by simp)] at h
    have e := Option.some.inj h
    simp only [Prod.mk.injEq] at e
    obtain ⟨rfl, rfl, rfl⟩ := e
    clear h
    go_enter Try.func19, Try.ntmps19
    go_wp2_with (go_at_call 38; refine (impl_within.calls a0 2 7 false _ HX.out).mono ?_; rintro e_ w1 ⟨rfl, ⟨nd, rfl⟩⟩)
    go_ret3
    exact ⟨_, rfl, Kd.R_nil _ _ _ _ _, by repeat (first | (with_reducible first | exact (Below.refl _ _) | apply below_alloc | apply pw_below_drewN | apply below_drew1) | exact (Below.refl _ _))⟩
  | true =>
    rw [if_pos rfl] at h
    obtain ⟨y, hy, h⟩ := Option.bind_eq_some_iff.mp h
    have HY := Aside0.mk hy
    clear hy
    cases y with
    | false =>
      rw [if_neg (by simp)] at h
      have e := Option.some.inj h
      simp only [Prod.mk.injEq] at e
      obtain ⟨rfl, rfl, rfl⟩ := e
      clear h
      go_enter Try.func19, Try.ntmps19
      go_wp2_with (first | (go_at_call 38; refine (impl_within.calls a0 2 7 true _ HX.out).mono ?_; rintro e_ w1 ⟨rfl, ⟨nd, rfl⟩⟩) | (go_at_call 43; refine (impl_isWork.calls a1 a2 false _ HY.out).mono ?_; rintro e_ w1 ⟨rfl, ⟨nd2, rfl⟩⟩))
      go_ret3
      exact ⟨_, rfl, Kd.R_nil _ _ _ _ _, by repeat (first | (with_reducible first | exact (Below.refl _ _) | apply below_alloc | apply pw_below_drewN | apply below_drew1) | exact (Below.refl _ _))⟩
    | true =>
      rw [if_pos rfl] at h
      obtain ⟨r, hr, h⟩ := Option.bind_eq_some_iff.mp h
      have e := Option.some.inj h
      simp only [Prod.mk.injEq] at e
      obtain ⟨rfl, rfl, rfl⟩ := e
      have HW := Aside0.mk hr
      clear h hr
      go_enter Try.func19, Try.ntmps19
      go_wp2_with (first | (go_at_call 38; refine (impl_within.calls a0 2 7 true _ HX.out).mono ?_; rintro e_ w1 ⟨rfl, ⟨nd, rfl⟩⟩) | (go_at_call 43; refine (impl_isWork.calls a1 a2 true _ HY.out).mono ?_; rintro e_ w1 ⟨rfl, ⟨nd2, rfl⟩⟩) | (go_at_call 44; refine (eachOrder_calls w _ (nd + nd2) a0 a1 a2 k r (size5 w _ _ _ _ _ _) rfl HW.out).mono ?_; rintro e_ w3 ⟨rfl, hQ3⟩; have HQ3 := Aside0.mk hQ3; clear hQ3; obtain ⟨A1, c1, A2, c2, ⟨z0, z1, z3, z4, z5, z6, z8, z9⟩, ⟨f3, f4, f8⟩, HC, HCC, HI⟩ := HQ3.out.opened; clear z0 z1 z5 z6 z8 z9 f3 f4 f8; have y3 : w3.cell? ⟨w.heap.size + 1 + 1 + 1, 0, none⟩ = some (.slice A2 r.1.length c2) := z3; have y4 : w3.cell? ⟨w.heap.size + 1 + 1 + 1 + 1, 0, none⟩ = some (.int .i64 r.2) := z4; clear z3 z4))
      repeat (go_quiet (fail); try go_wp2)
      go_ret3
      have q1 := Kd.R_mono (ok' := fun _ => True) HI.out.2.2.1 (fun _ _ => trivial)
      have q2 := HI.out.2.2.2
      exact ⟨_, rfl, by (with_reducible repeat (first | apply Kd.R_alloc | apply Kd.R_drewN | apply Kd.R_drew)); exact q1, by repeat (first | (with_reducible first | exact q2 | apply below_alloc | apply pw_below_drewN | apply below_drew1) | exact q2)⟩


/-! ### laws_FnExactQuickOrder: function 5 -/
mutual
def laws_FnExactQuickOrder.j0 : Nat → Int → Int → Int → List Int → Int → Int → List Int → Bool → Option (Bool)
  | 0, _, _, _, _, _, _, _, _ => none
  | k + 1, x0, x1, x2, x7, x8, x9, x10, x47 => if x47 = true then (some false) else ((laws_markInt64S.f k x10 1).bind fun bt165 => ((laws_heldInt64S.f k bt165.2 1).bind fun t167 => (if t167 < 0 then (some false) else (if t167 = bt165.1 then ((impl_QuickOrder.f k x0 x1 x2).bind fun bt168 => ((laws_eqInt64S.f k bt168.1 x7).bind fun t173 => (if t173 = true then (if bt168.2.1 = x8 then (laws_FnExactQuickOrder.j1 k bt165.2 bt165.1 (bt168.2.2 != x9)) else (laws_FnExactQuickOrder.j1 k bt165.2 bt165.1 true)) else (laws_FnExactQuickOrder.j1 k bt165.2 bt165.1 true)))) else (some false)))))
def laws_FnExactQuickOrder.j1 : Nat → List Int → Int → Bool → Option (Bool)
  | 0, _, _, _ => none
  | k + 1, x10, x13, x80 => if x80 = true then (some false) else ((laws_heldInt64S.f k x10 1).bind fun t174 => (if t174 < 0 then (some false) else (if t174 = x13 then (some true) else (some false))))
end
def laws_FnExactQuickOrder.f (k : Nat) (a0 : Int) (a1 : Int) (a2 : Int) : Option (Bool) := (spec_QuickOrder.f k a0 a1 a2).bind fun bt154 => ((impl_QuickOrder.f k a0 a1 a2).bind fun bt159 => ((laws_eqInt64S.f k bt159.1 bt154.1).bind fun t164 => (if t164 = true then (if bt159.2.1 = bt154.2.1 then (laws_FnExactQuickOrder.j0 k a0 a1 a2 bt154.1 bt154.2.1 bt154.2.2 bt159.1 (bt159.2.2 != bt154.2.2)) else (laws_FnExactQuickOrder.j0 k a0 a1 a2 bt154.1 bt154.2.1 bt154.2.2 bt159.1 true)) else (laws_FnExactQuickOrder.j0 k a0 a1 a2 bt154.1 bt154.2.1 bt154.2.2 bt159.1 true))))
theorem laws_FnExactQuickOrder.mono_l : ∀ k, (∀ y0 y1 y2 y3 y4 y5 y6 y7, LeO (laws_FnExactQuickOrder.j0 k y0 y1 y2 y3 y4 y5 y6 y7) (laws_FnExactQuickOrder.j0 (k + 1) y0 y1 y2 y3 y4 y5 y6 y7)) ∧ (∀ y0 y1 y2, LeO (laws_FnExactQuickOrder.j1 k y0 y1 y2) (laws_FnExactQuickOrder.j1 (k + 1) y0 y1 y2))
  | 0 => ⟨fun _ _ _ _ _ _ _ _ r h => by simp [laws_FnExactQuickOrder.j0] at h, fun _ _ _ r h => by simp [laws_FnExactQuickOrder.j1] at h⟩
  | k + 1 => by
    obtain ⟨ih0, ih1⟩ := laws_FnExactQuickOrder.mono_l k
    refine ⟨?_, ?_⟩
    · intro y0 y1 y2 y3 y4 y5 y6 y7
      unfold laws_FnExactQuickOrder.j0
      repeat' first
      | (with_reducible exact ih0 _ _ _ _ _ _ _ _)
      | (with_reducible exact ih1 _ _ _)
      | (with_reducible exact impl_QuickOrder.mono _ _ _ _)
      | (with_reducible exact laws_eqInt64S.mono _ _ _)
      | (with_reducible exact laws_heldInt64S.mono _ _ _)
      | (with_reducible exact laws_markInt64S.mono _ _ _)
      | (with_reducible exact spec_QuickOrder.mono _ _ _ _)
      | (with_reducible exact LeO.refl _)
      | (with_reducible exact LeO.none _)
      | (with_reducible refine LeO.ite ?_ ?_)
      | (with_reducible refine LeO.bind ?_ (fun _ => ?_))
      | exact ih0 _ _ _ _ _ _ _ _
      | exact ih1 _ _ _
      | exact impl_QuickOrder.mono _ _ _ _
      | exact laws_eqInt64S.mono _ _ _
      | exact laws_heldInt64S.mono _ _ _
      | exact laws_markInt64S.mono _ _ _
      | exact spec_QuickOrder.mono _ _ _ _
      | exact LeO.none _
      | refine LeO.ite ?_ ?_
      | refine LeO.bind ?_ (fun _ => ?_)
    · intro y0 y1 y2
      unfold laws_FnExactQuickOrder.j1
      repeat' first
      | (with_reducible exact ih0 _ _ _ _ _ _ _ _)
      | (with_reducible exact ih1 _ _ _)
      | (with_reducible exact impl_QuickOrder.mono _ _ _ _)
      | (with_reducible exact laws_eqInt64S.mono _ _ _)
      | (with_reducible exact laws_heldInt64S.mono _ _ _)
      | (with_reducible exact laws_markInt64S.mono _ _ _)
      | (with_reducible exact spec_QuickOrder.mono _ _ _ _)
      | (with_reducible exact LeO.refl _)
      | (with_reducible exact LeO.none _)
      | (with_reducible refine LeO.ite ?_ ?_)
      | (with_reducible refine LeO.bind ?_ (fun _ => ?_))
      | exact ih0 _ _ _ _ _ _ _ _
      | exact ih1 _ _ _
      | exact impl_QuickOrder.mono _ _ _ _
      | exact laws_eqInt64S.mono _ _ _
      | exact laws_heldInt64S.mono _ _ _
      | exact laws_markInt64S.mono _ _ _
      | exact spec_QuickOrder.mono _ _ _ _
      | exact LeO.none _
      | refine LeO.ite ?_ ?_
      | refine LeO.bind ?_ (fun _ => ?_)
theorem laws_FnExactQuickOrder.mono : ∀ a0 a1 a2 k, LeO (laws_FnExactQuickOrder.f k a0 a1 a2) (laws_FnExactQuickOrder.f (k + 1) a0 a1 a2) := by
  intro a0 a1 a2 k
  obtain ⟨ih0, ih1⟩ := laws_FnExactQuickOrder.mono_l k
  unfold laws_FnExactQuickOrder.f
  repeat' first
      | (with_reducible exact ih0 _ _ _ _ _ _ _ _)
      | (with_reducible exact ih1 _ _ _)
      | (with_reducible exact impl_QuickOrder.mono _ _ _ _)
      | (with_reducible exact laws_eqInt64S.mono _ _ _)
      | (with_reducible exact laws_heldInt64S.mono _ _ _)
      | (with_reducible exact laws_markInt64S.mono _ _ _)
      | (with_reducible exact spec_QuickOrder.mono _ _ _ _)
      | (with_reducible exact LeO.refl _)
      | (with_reducible exact LeO.none _)
      | (with_reducible refine LeO.ite ?_ ?_)
      | (with_reducible refine LeO.bind ?_ (fun _ => ?_))
      | exact ih0 _ _ _ _ _ _ _ _
      | exact ih1 _ _ _
      | exact impl_QuickOrder.mono _ _ _ _
      | exact laws_eqInt64S.mono _ _ _
      | exact laws_heldInt64S.mono _ _ _
      | exact laws_markInt64S.mono _ _ _
      | exact spec_QuickOrder.mono _ _ _ _
      | exact LeO.none _
      | refine LeO.ite ?_ ?_
      | refine LeO.bind ?_ (fun _ => ?_)
set_option maxHeartbeats 8000000 in
set_option maxRecDepth 100000 in
theorem laws_FnExactQuickOrder.calls (k : Nat) (a0 : Int) (a1 : Int) (a2 : Int) (r : Bool) (w : World) (h : laws_FnExactQuickOrder.f k a0 a1 a2 = some r) :
    Calls Try.prog 5 #[.int .i64 a0, .int .i64 a1, .int .i64 a2] w fun e w' => e = .returned (.bool r) ∧ Below w.heap.size w w' := by
  have HB := Aside0.mk (Below.refl w.heap.size w)
  have H : ((spec_QuickOrder.f k a0 a1 a2).bind fun bt154 => ((impl_QuickOrder.f k a0 a1 a2).bind fun bt159 => ((laws_eqInt64S.f k bt159.1 bt154.1).bind fun t164 => (if t164 = true then (if bt159.2.1 = bt154.2.1 then (laws_FnExactQuickOrder.j0 k a0 a1 a2 bt154.1 bt154.2.1 bt154.2.2 bt159.1 (bt159.2.2 != bt154.2.2)) else (laws_FnExactQuickOrder.j0 k a0 a1 a2 bt154.1 bt154.2.1 bt154.2.2 bt159.1 true)) else (laws_FnExactQuickOrder.j0 k a0 a1 a2 bt154.1 bt154.2.1 bt154.2.2 bt159.1 true))))) = some r := h
  clear h
  replace H := Option.bind_eq_some_iff.mp H
  obtain ⟨⟨t154, t155, t156⟩, A40, H⟩ := H
  replace H : ((impl_QuickOrder.f k a0 a1 a2).bind fun bt159 => ((laws_eqInt64S.f k bt159.1 t154).bind fun t164 => (if t164 = true then (if bt159.2.1 = t155 then (laws_FnExactQuickOrder.j0 k a0 a1 a2 t154 t155 t156 bt159.1 (bt159.2.2 != t156)) else (laws_FnExactQuickOrder.j0 k a0 a1 a2 t154 t155 t156 bt159.1 true)) else (laws_FnExactQuickOrder.j0 k a0 a1 a2 t154 t155 t156 bt159.1 true)))) = some r := H
  have A4 := Aside0.mk A40
  clear A40
  replace H := Option.bind_eq_some_iff.mp H
  obtain ⟨⟨t159, t160, t161⟩, A50, H⟩ := H
  replace H : ((laws_eqInt64S.f k t159 t154).bind fun t164 => (if t164 = true then (if t160 = t155 then (laws_FnExactQuickOrder.j0 k a0 a1 a2 t154 t155 t156 t159 (t161 != t156)) else (laws_FnExactQuickOrder.j0 k a0 a1 a2 t154 t155 t156 t159 true)) else (laws_FnExactQuickOrder.j0 k a0 a1 a2 t154 t155 t156 t159 true))) = some r := H
  have A5 := Aside0.mk A50
  clear A50
  have HC6 := Aside0.mk H
  clear H
  go_enter Try.func5, Try.ntmps5
  go_upto_region 3 with (first | ((with_reducible refine gate_callee (f := 18) rfl ?_); refine goesL_ (some 22) rfl rfl Try.func18 (by kernel_rfl) rfl #[.int .i64 a0, .int .i64 a1, .int .i64 a2] rfl (by (try simp only [List.map_toArray, List.map_cons, List.map_nil]); first | done | rfl | (simp only [List.length_drop, List.length_take]; rfl)) ?_; (with_reducible refine (spec_QuickOrder.calls k a0 a1 a2 t154 t155 t156 _ A4.out).mono ?_); rintro e w7 ⟨v157, rfl, ho0, hb⟩; refine ⟨_, rfl, ?_⟩; have n0_ := Aside0.mk (Kd.R_lower ho0 (below_size (by repeat (first | (with_reducible first | exact HB.out | apply below_alloc | apply pw_below_drewN | apply below_drew1) | exact HB.out)))); have n1_ := Aside0.mk (below_step (by repeat (first | (with_reducible first | exact HB.out | apply below_alloc | apply pw_below_drewN | apply below_drew1) | exact HB.out)) hb); clear HB; have HO158 := n0_; have HB := n1_; clear n0_ n1_; (try clear hb); (try clear hb2); (try clear hk); (try clear hi); (try clear ho0)) | ((with_reducible refine gate_callee (f := 19) rfl ?_); refine goesL_ (some 30) rfl rfl Try.func19 (by kernel_rfl) rfl #[.int .i64 a0, .int .i64 a1, .int .i64 a2] rfl (by (try simp only [List.map_toArray, List.map_cons, List.map_nil]); first | done | rfl | (simp only [List.length_drop, List.length_take]; rfl)) ?_; (with_reducible refine (impl_QuickOrder.calls k a0 a1 a2 t159 t160 t161 _ A5.out).mono ?_); rintro e w8 ⟨v162, rfl, ho0, hb⟩; refine ⟨_, rfl, ?_⟩; have n0_ := Aside0.mk (Kd.R_elder' (by (with_reducible repeat (first | apply Kd.R_alloc | apply Kd.R_drewN | apply Kd.R_drew)); exact HO158.out) (Kd.R_base ho0) hb); have n1_ := Aside0.mk (Kd.R_lower (Kd.R_new' ho0 (Kd.R_lt (by (with_reducible repeat (first | apply Kd.R_alloc | apply Kd.R_drewN | apply Kd.R_drew)); exact HO158.out))) (below_size (by repeat (first | (with_reducible first | exact HB.out | apply below_alloc | apply pw_below_drewN | apply below_drew1) | exact HB.out)))); have n2_ := Aside0.mk (below_step (by repeat (first | (with_reducible first | exact HB.out | apply below_alloc | apply pw_below_drewN | apply below_drew1) | exact HB.out)) hb); clear HO158; clear HB; have HO158 := n0_; have HO163 := n1_; have HB := n2_; clear n0_ n1_ n2_; (try clear hb); (try clear hb2); (try clear hk); (try clear hi); (try clear ho0)))
  (try simp only [Act.put, List.setIfInBounds_toArray, List.set_cons_zero, List.set_cons_succ])
  go_cut [47] (fun v47 wc => ∃ (kq : Nat) (x47_5 : Bool), v47 = .bool x47_5 ∧ Aside0 (laws_FnExactQuickOrder.j0 kq a0 a1 a2 t154 t155 t156 t159 x47_5 = some r) ∧ Aside0 (kq ≤ k) ∧ Aside0 (Kd.R (Kd.int .i64) 2 wc w.heap.size (fun k_ => some k_ ≠ (v162 : Value).ownBlock) v157 t154) ∧ Aside0 (Kd.R (Kd.int .i64) 2 wc w.heap.size (fun k_ => some k_ ≠ (v157 : Value).ownBlock) v162 t159) ∧ Aside0 (Below w.heap.size w wc))
  case first =>
    have H := HC6.out
    clear HC6
    replace H := Option.bind_eq_some_iff.mp H
    obtain ⟨t164, A90, H⟩ := H
    replace H : (if t164 = true then (if t160 = t155 then (laws_FnExactQuickOrder.j0 k a0 a1 a2 t154 t155 t156 t159 (t161 != t156)) else (laws_FnExactQuickOrder.j0 k a0 a1 a2 t154 t155 t156 t159 true)) else (laws_FnExactQuickOrder.j0 k a0 a1 a2 t154 t155 t156 t159 true)) = some r := H
    have A9 := Aside0.mk A90
    clear A90
    by_cases c10 : t164 = true
    · subst c10
      have H1 : (if t160 = t155 then (laws_FnExactQuickOrder.j0 k a0 a1 a2 t154 t155 t156 t159 (t161 != t156)) else (laws_FnExactQuickOrder.j0 k a0 a1 a2 t154 t155 t156 t159 true)) = some r := by rw [if_pos rfl] at H; exact H
      clear H
      have H := H1
      clear H1
      by_cases c11 : t160 = t155
      · rw [if_pos c11] at H
        have c11b0 : (t160 == t155) = true := beq_iff_eq.mpr c11
        have c11b1 : (t160 != t155) = false := bne_eq_false_iff_eq.mpr c11
        clear c11
        (first | rw [c11b0] | (simp only [i64_w, i32_w]; rw [c11b0]) | skip)
        have H' := Aside0.mk H
        clear H
        obtain ⟨Ao12, co12, eo12⟩ := Kd.R_slice HO163.out
        subst eo12
        obtain ⟨Ao13, co13, eo13⟩ := Kd.R_slice HO158.out
        subst eo13
        go_wp2_with (first | ((with_reducible refine gate_callee (f := 15) rfl ?_); refine goesL_ (some 36) rfl rfl Try.func15 (by kernel_rfl) rfl #[.slice Ao12 t159.length co12, .slice Ao13 t154.length co13] rfl (by (try simp only [List.map_toArray, List.map_cons, List.map_nil]); first | done | rfl | (simp only [List.length_drop, List.length_take]; rfl)) ?_; (with_reducible refine (laws_eqInt64S.calls k _ _ t159 _ _ t154 true _ ?side1 ?side2 ?side3 ?side4 A9.out).mono ?_); (case side1 => repeat (first | exact (Kd.R_reads' HO163.out).2.2 | (with_reducible refine Kd.C_alloc ?_ _) | (with_reducible refine Kd.C_drewN ?_ _) | (with_reducible refine Kd.C_drew ?_))); (case side2 => exact (Kd.R_reads' HO163.out).2.1); (case side3 => repeat (first | exact (Kd.R_reads' HO158.out).2.2 | (with_reducible refine Kd.C_alloc ?_ _) | (with_reducible refine Kd.C_drewN ?_ _) | (with_reducible refine Kd.C_drew ?_))); (case side4 => exact (Kd.R_reads' HO158.out).2.1); rintro e w' ⟨rfl, ⟨nd, rfl⟩⟩; refine ⟨_, rfl, ?_⟩))
        go_meet
        case rel => exact ⟨_, ((t161 != t156)), (by first | rfl | (simp; done) | (simp [*]; done)), H', ⟨by first | omega | exact Nat.le_refl _⟩, ⟨by (with_reducible repeat (first | apply Kd.R_alloc | apply Kd.R_drewN | apply Kd.R_drew)); exact Kd.R_mono HO158.out (fun _ hk => hk.2)⟩, ⟨by (with_reducible repeat (first | apply Kd.R_alloc | apply Kd.R_drewN | apply Kd.R_drew)); exact Kd.R_mono HO163.out (fun _ hk => hk.2)⟩, ⟨by repeat (first | (with_reducible first | exact HB.out | apply below_alloc | apply pw_below_drewN | apply below_drew1) | exact HB.out)⟩⟩
      · rw [if_neg c11] at H
        have c11b0 : (t160 == t155) = false := beq_eq_false_iff_ne.mpr c11
        have c11b1 : (t160 != t155) = true := bne_iff_ne.mpr c11
        (first | rw [c11b0] | (simp only [i64_w, i32_w]; rw [c11b0]) | skip)
        have H' := Aside0.mk H
        clear H
        obtain ⟨Ao14, co14, eo14⟩ := Kd.R_slice HO163.out
        subst eo14
        obtain ⟨Ao15, co15, eo15⟩ := Kd.R_slice HO158.out
        subst eo15
        go_wp2_with (first | ((with_reducible refine gate_callee (f := 15) rfl ?_); refine goesL_ (some 36) rfl rfl Try.func15 (by kernel_rfl) rfl #[.slice Ao14 t159.length co14, .slice Ao15 t154.length co15] rfl (by (try simp only [List.map_toArray, List.map_cons, List.map_nil]); first | done | rfl | (simp only [List.length_drop, List.length_take]; rfl)) ?_; (with_reducible refine (laws_eqInt64S.calls k _ _ t159 _ _ t154 true _ ?side1 ?side2 ?side3 ?side4 A9.out).mono ?_); (case side1 => repeat (first | exact (Kd.R_reads' HO163.out).2.2 | (with_reducible refine Kd.C_alloc ?_ _) | (with_reducible refine Kd.C_drewN ?_ _) | (with_reducible refine Kd.C_drew ?_))); (case side2 => exact (Kd.R_reads' HO163.out).2.1); (case side3 => repeat (first | exact (Kd.R_reads' HO158.out).2.2 | (with_reducible refine Kd.C_alloc ?_ _) | (with_reducible refine Kd.C_drewN ?_ _) | (with_reducible refine Kd.C_drew ?_))); (case side4 => exact (Kd.R_reads' HO158.out).2.1); rintro e w' ⟨rfl, ⟨nd, rfl⟩⟩; refine ⟨_, rfl, ?_⟩))
        go_meet
        case rel => exact ⟨_, (true), (by first | rfl | (simp; done) | (simp [*]; done)), H', ⟨by first | omega | exact Nat.le_refl _⟩, ⟨by (with_reducible repeat (first | apply Kd.R_alloc | apply Kd.R_drewN | apply Kd.R_drew)); exact Kd.R_mono HO158.out (fun _ hk => hk.2)⟩, ⟨by (with_reducible repeat (first | apply Kd.R_alloc | apply Kd.R_drewN | apply Kd.R_drew)); exact Kd.R_mono HO163.out (fun _ hk => hk.2)⟩, ⟨by repeat (first | (with_reducible first | exact HB.out | apply below_alloc | apply pw_below_drewN | apply below_drew1) | exact HB.out)⟩⟩
    · replace c10 := Bool.eq_false_iff.mpr c10
      subst c10
      have H1 : (laws_FnExactQuickOrder.j0 k a0 a1 a2 t154 t155 t156 t159 true) = some r := by rw [if_neg (show ¬ (false = true) by decide)] at H; exact H
      clear H
      have H := H1
      clear H1
      have H' := Aside0.mk H
      clear H
      obtain ⟨Ao16, co16, eo16⟩ := Kd.R_slice HO163.out
      subst eo16
      obtain ⟨Ao17, co17, eo17⟩ := Kd.R_slice HO158.out
      subst eo17
      go_wp2_with (first | ((with_reducible refine gate_callee (f := 15) rfl ?_); refine goesL_ (some 36) rfl rfl Try.func15 (by kernel_rfl) rfl #[.slice Ao16 t159.length co16, .slice Ao17 t154.length co17] rfl (by (try simp only [List.map_toArray, List.map_cons, List.map_nil]); first | done | rfl | (simp only [List.length_drop, List.length_take]; rfl)) ?_; (with_reducible refine (laws_eqInt64S.calls k _ _ t159 _ _ t154 false _ ?side1 ?side2 ?side3 ?side4 A9.out).mono ?_); (case side1 => repeat (first | exact (Kd.R_reads' HO163.out).2.2 | (with_reducible refine Kd.C_alloc ?_ _) | (with_reducible refine Kd.C_drewN ?_ _) | (with_reducible refine Kd.C_drew ?_))); (case side2 => exact (Kd.R_reads' HO163.out).2.1); (case side3 => repeat (first | exact (Kd.R_reads' HO158.out).2.2 | (with_reducible refine Kd.C_alloc ?_ _) | (with_reducible refine Kd.C_drewN ?_ _) | (with_reducible refine Kd.C_drew ?_))); (case side4 => exact (Kd.R_reads' HO158.out).2.1); rintro e w' ⟨rfl, ⟨nd, rfl⟩⟩; refine ⟨_, rfl, ?_⟩))
      go_meet
      case rel => exact ⟨_, (true), (by first | rfl | (simp; done) | (simp [*]; done)), H', ⟨by first | omega | exact Nat.le_refl _⟩, ⟨by (with_reducible repeat (first | apply Kd.R_alloc | apply Kd.R_drewN | apply Kd.R_drew)); exact Kd.R_mono HO158.out (fun _ hk => hk.2)⟩, ⟨by (with_reducible repeat (first | apply Kd.R_alloc | apply Kd.R_drewN | apply Kd.R_drew)); exact Kd.R_mono HO163.out (fun _ hk => hk.2)⟩, ⟨by repeat (first | (with_reducible first | exact HB.out | apply below_alloc | apply pw_below_drewN | apply below_drew1) | exact HB.out)⟩⟩
  case rest =>
    clear HC6
    try clear c1
    try clear p2
    try clear c5
    try clear c10
    try clear c11
    try clear c11b0
    try clear c11b1
    try clear c15
    obtain ⟨kq, x47_5, rfl, HA, HJ5, HO_7, HO_10, HB⟩ := hcut
    cases kq with
    | zero => exact absurd HA.out (by simp [laws_FnExactQuickOrder.j0])
    | succ kj5 =>
      have H := HA.out
      clear HA
      simp only [laws_FnExactQuickOrder.j0] at H
      by_cases c18 : x47_5 = true
      · subst c18
        have H1 : (some false) = some r := by rw [if_pos rfl] at H; exact H
        clear H
        have H := H1
        clear H1
        obtain rfl := Option.some.inj H
        go_wp2
        go_ret
        exact ⟨by first | rfl | (simp [errW_none, errW_some] <;> rfl) | (simp [*, errW_none, errW_some] <;> rfl), by repeat (first | (with_reducible first | exact HB.out | apply below_alloc | apply pw_below_drewN | apply below_drew1) | exact HB.out)⟩
      · replace c18 := Bool.eq_false_iff.mpr c18
        subst c18
        have H1 : ((laws_markInt64S.f kj5 t159 1).bind fun bt165 => ((laws_heldInt64S.f kj5 bt165.2 1).bind fun t167 => (if t167 < 0 then (some false) else (if t167 = bt165.1 then ((impl_QuickOrder.f kj5 a0 a1 a2).bind fun bt168 => ((laws_eqInt64S.f kj5 bt168.1 t154).bind fun t173 => (if t173 = true then (if bt168.2.1 = t155 then (laws_FnExactQuickOrder.j1 kj5 bt165.2 bt165.1 (bt168.2.2 != t156)) else (laws_FnExactQuickOrder.j1 kj5 bt165.2 bt165.1 true)) else (laws_FnExactQuickOrder.j1 kj5 bt165.2 bt165.1 true)))) else (some false))))) = some r := by rw [if_neg (show ¬ (false = true) by decide)] at H; exact H
        clear H
        have H := H1
        clear H1
        replace H := Option.bind_eq_some_iff.mp H
        obtain ⟨⟨t165, t166⟩, A190, H⟩ := H
        replace H : ((laws_heldInt64S.f kj5 t166 1).bind fun t167 => (if t167 < 0 then (some false) else (if t167 = t165 then ((impl_QuickOrder.f kj5 a0 a1 a2).bind fun bt168 => ((laws_eqInt64S.f kj5 bt168.1 t154).bind fun t173 => (if t173 = true then (if bt168.2.1 = t155 then (laws_FnExactQuickOrder.j1 kj5 t166 t165 (bt168.2.2 != t156)) else (laws_FnExactQuickOrder.j1 kj5 t166 t165 true)) else (laws_FnExactQuickOrder.j1 kj5 t166 t165 true)))) else (some false)))) = some r := H
        have A19 := Aside0.mk A190
        clear A190
        replace H := Option.bind_eq_some_iff.mp H
        obtain ⟨t167, A200, H⟩ := H
        replace H : (if t167 < 0 then (some false) else (if t167 = t165 then ((impl_QuickOrder.f kj5 a0 a1 a2).bind fun bt168 => ((laws_eqInt64S.f kj5 bt168.1 t154).bind fun t173 => (if t173 = true then (if bt168.2.1 = t155 then (laws_FnExactQuickOrder.j1 kj5 t166 t165 (bt168.2.2 != t156)) else (laws_FnExactQuickOrder.j1 kj5 t166 t165 true)) else (laws_FnExactQuickOrder.j1 kj5 t166 t165 true)))) else (some false))) = some r := H
        have A20 := Aside0.mk A200
        clear A200
        by_cases c21 : t167 < 0
        · rw [if_pos c21] at H
          have c21b0 : decide (t167 < 0) = true := decide_eq_true c21
          clear c21
          obtain rfl := Option.some.inj H
          obtain ⟨Ao22, co22, eo22⟩ := Kd.R_slice HO_10.out
          subst eo22
          go_wp2_with (first | ((with_reducible refine gate_callee (f := 16) rfl ?_); refine goesL_ (some 50) rfl rfl Try.func16 (by kernel_rfl) rfl #[.slice Ao22 t159.length co22, .int .i64 1] rfl (by (try simp only [List.map_toArray, List.map_cons, List.map_nil]); first | done | rfl | (simp only [List.length_drop, List.length_take]; rfl)) ?_; (with_reducible refine (laws_markInt64S.calls kj5 (fun k_ => some k_ = (.slice Ao22 t159.length co22 : Value).ownBlock) (.slice Ao22 t159.length co22) t159 1 t165 t166 w _ ?side1 ?side2 A19.out).mono ?_); (case side1 => repeat (first | (with_reducible first | exact HB.out | apply below_alloc | apply pw_below_drewN | apply below_drew1) | exact HB.out)); (case side2 => exact Kd.R_tight rfl HO_10.out); rintro e w23 ⟨rfl, hy0, hb, hkp⟩; refine ⟨_, rfl, ?_⟩; have n0_ := Aside0.mk (Kd.R_mono (ok' := fun k_ => some k_ ≠ (.slice Ao22 t159.length co22 : Value).ownBlock) (Kd.R_keptB (HO_7.out) hkp (fun k_ hk_ hs_ => (hk_) hs_)) (fun k_ hk_ => hk_.1)); have n1_ := Aside0.mk (Kd.R_reok rfl hy0 (fun k_ e_ => HO_10.out.1 k_ e_)); have n2_ := Aside0.mk (hb); clear HO_7; clear HO_10; clear HB; have HO_7 := n0_; have HO_10 := n1_; have HB := n2_; clear n0_ n1_ n2_; (try clear hb); (try clear hkp); (try clear hy0)) | ((with_reducible refine gate_callee (f := 17) rfl ?_); refine goesL_ (some 53) rfl rfl Try.func17 (by kernel_rfl) rfl #[.slice Ao22 t166.length co22, .int .i64 1] rfl (by (try simp only [List.map_toArray, List.map_cons, List.map_nil]); first | done | (rw [show t166.length = t159.length from (Kd.R_reads' HO_10.out).1.symm] <;> rfl) | rfl | (simp only [List.length_drop, List.length_take]; rfl)) ?_; (with_reducible refine (laws_heldInt64S.calls kj5 _ _ t166 1 t167 _ ?side1 ?side2 A20.out).mono ?_); (case side1 => repeat (first | exact (Kd.R_reads' HO_10.out).2.2 | (with_reducible refine Kd.C_alloc ?_ _) | (with_reducible refine Kd.C_drewN ?_ _) | (with_reducible refine Kd.C_drew ?_))); (case side2 => rw [show t166.length = t159.length from (Kd.R_reads' HO_10.out).1.symm]; exact (Kd.R_reads' HO_10.out).2.1); rintro e w' ⟨rfl, ⟨nd, rfl⟩⟩; refine ⟨_, rfl, ?_⟩))
          go_ret
          exact ⟨by first | rfl | (simp [errW_none, errW_some] <;> rfl) | (simp [*, errW_none, errW_some] <;> rfl), by repeat (first | (with_reducible first | exact HB.out | apply below_alloc | apply pw_below_drewN | apply below_drew1) | exact HB.out)⟩
        · rw [if_neg c21] at H
          have c21b0 : decide (t167 < 0) = false := decide_eq_false c21
          clear c21
          by_cases c24 : t167 = t165
          · rw [if_pos c24] at H
            have c24b0 : (t167 == t165) = true := beq_iff_eq.mpr c24
            have c24b1 : (t167 != t165) = false := bne_eq_false_iff_eq.mpr c24
            clear c24
            replace H := Option.bind_eq_some_iff.mp H
            obtain ⟨⟨t168, t169, t170⟩, A250, H⟩ := H
            replace H : ((laws_eqInt64S.f kj5 t168 t154).bind fun t173 => (if t173 = true then (if t169 = t155 then (laws_FnExactQuickOrder.j1 kj5 t166 t165 (t170 != t156)) else (laws_FnExactQuickOrder.j1 kj5 t166 t165 true)) else (laws_FnExactQuickOrder.j1 kj5 t166 t165 true))) = some r := H
            have A25 := Aside0.mk A250
            clear A250
            have HC26 := Aside0.mk H
            clear H
            obtain ⟨Ao27, co27, eo27⟩ := Kd.R_slice HO_10.out
            subst eo27
            go_upto_region 14 with (first | ((with_reducible refine gate_callee (f := 16) rfl ?_); refine goesL_ (some 50) rfl rfl Try.func16 (by kernel_rfl) rfl #[.slice Ao27 t159.length co27, .int .i64 1] rfl (by (try simp only [List.map_toArray, List.map_cons, List.map_nil]); first | done | rfl | (simp only [List.length_drop, List.length_take]; rfl)) ?_; (with_reducible refine (laws_markInt64S.calls kj5 (fun k_ => some k_ = (.slice Ao27 t159.length co27 : Value).ownBlock) (.slice Ao27 t159.length co27) t159 1 t165 t166 w _ ?side1 ?side2 A19.out).mono ?_); (case side1 => repeat (first | (with_reducible first | exact HB.out | apply below_alloc | apply pw_below_drewN | apply below_drew1) | exact HB.out)); (case side2 => exact Kd.R_tight rfl HO_10.out); rintro e w28 ⟨rfl, hy0, hb, hkp⟩; refine ⟨_, rfl, ?_⟩; have n0_ := Aside0.mk (Kd.R_mono (ok' := fun k_ => some k_ ≠ (.slice Ao27 t159.length co27 : Value).ownBlock) (Kd.R_keptB (HO_7.out) hkp (fun k_ hk_ hs_ => (hk_) hs_)) (fun k_ hk_ => hk_.1)); have n1_ := Aside0.mk (Kd.R_reok rfl hy0 (fun k_ e_ => HO_10.out.1 k_ e_)); have n2_ := Aside0.mk (hb); clear HO_7; clear HO_10; clear HB; have HO_7 := n0_; have HO_10 := n1_; have HB := n2_; clear n0_ n1_ n2_; (try clear hb); (try clear hkp); (try clear hy0)) | ((with_reducible refine gate_callee (f := 17) rfl ?_); refine goesL_ (some 53) rfl rfl Try.func17 (by kernel_rfl) rfl #[.slice Ao27 t166.length co27, .int .i64 1] rfl (by (try simp only [List.map_toArray, List.map_cons, List.map_nil]); first | done | (rw [show t166.length = t159.length from (Kd.R_reads' HO_10.out).1.symm] <;> rfl) | rfl | (simp only [List.length_drop, List.length_take]; rfl)) ?_; (with_reducible refine (laws_heldInt64S.calls kj5 _ _ t166 1 t167 _ ?side1 ?side2 A20.out).mono ?_); (case side1 => repeat (first | exact (Kd.R_reads' HO_10.out).2.2 | (with_reducible refine Kd.C_alloc ?_ _) | (with_reducible refine Kd.C_drewN ?_ _) | (with_reducible refine Kd.C_drew ?_))); (case side2 => rw [show t166.length = t159.length from (Kd.R_reads' HO_10.out).1.symm]; exact (Kd.R_reads' HO_10.out).2.1); rintro e w' ⟨rfl, ⟨nd, rfl⟩⟩; refine ⟨_, rfl, ?_⟩) | ((with_reducible refine gate_callee (f := 19) rfl ?_); refine goesL_ (some 63) rfl rfl Try.func19 (by kernel_rfl) rfl #[.int .i64 a0, .int .i64 a1, .int .i64 a2] rfl (by (try simp only [List.map_toArray, List.map_cons, List.map_nil]); first | done | rfl | (simp only [List.length_drop, List.length_take]; rfl)) ?_; (with_reducible refine (impl_QuickOrder.calls kj5 a0 a1 a2 t168 t169 t170 _ A25.out).mono ?_); rintro e w29 ⟨v171, rfl, ho0, hb⟩; refine ⟨_, rfl, ?_⟩; have n0_ := Aside0.mk (Kd.R_elder' (by (with_reducible repeat (first | apply Kd.R_alloc | apply Kd.R_drewN | apply Kd.R_drew)); exact HO_7.out) (Kd.R_base ho0) hb); have n1_ := Aside0.mk (Kd.R_elder' (by (with_reducible repeat (first | apply Kd.R_alloc | apply Kd.R_drewN | apply Kd.R_drew)); exact HO_10.out) (Kd.R_base ho0) hb); have n2_ := Aside0.mk (Kd.R_lower (Kd.R_new' (Kd.R_new' ho0 (Kd.R_lt (by (with_reducible repeat (first | apply Kd.R_alloc | apply Kd.R_drewN | apply Kd.R_drew)); exact HO_7.out))) (Kd.R_lt (by (with_reducible repeat (first | apply Kd.R_alloc | apply Kd.R_drewN | apply Kd.R_drew)); exact HO_10.out))) (below_size (by repeat (first | (with_reducible first | exact HB.out | apply below_alloc | apply pw_below_drewN | apply below_drew1) | exact HB.out)))); have n3_ := Aside0.mk (below_step (by repeat (first | (with_reducible first | exact HB.out | apply below_alloc | apply pw_below_drewN | apply below_drew1) | exact HB.out)) hb); clear HO_7; clear HO_10; clear HB; have HO_7 := n0_; have HO_10 := n1_; have HO172 := n2_; have HB := n3_; clear n0_ n1_ n2_ n3_; (try clear hb); (try clear hb2); (try clear hk); (try clear hi); (try clear ho0)))
            (try simp only [Act.put, List.setIfInBounds_toArray, List.set_cons_zero, List.set_cons_succ])
            go_cut [80] (fun v80 wc => ∃ (kq : Nat) (x80_25 : Bool), v80 = .bool x80_25 ∧ Aside0 (laws_FnExactQuickOrder.j1 kq t166 t165 x80_25 = some r) ∧ Aside0 (kq ≤ kj5) ∧ Aside0 (Kd.R (Kd.int .i64) 2 wc w.heap.size (fun _ => True) (.slice Ao27 t159.length co27) t166) ∧ Aside0 (Below w.heap.size w wc))
            case first =>
              have H := HC26.out
              clear HC26
              replace H := Option.bind_eq_some_iff.mp H
              obtain ⟨t173, A300, H⟩ := H
              replace H : (if t173 = true then (if t169 = t155 then (laws_FnExactQuickOrder.j1 kj5 t166 t165 (t170 != t156)) else (laws_FnExactQuickOrder.j1 kj5 t166 t165 true)) else (laws_FnExactQuickOrder.j1 kj5 t166 t165 true)) = some r := H
              have A30 := Aside0.mk A300
              clear A300
              by_cases c31 : t173 = true
              · subst c31
                have H1 : (if t169 = t155 then (laws_FnExactQuickOrder.j1 kj5 t166 t165 (t170 != t156)) else (laws_FnExactQuickOrder.j1 kj5 t166 t165 true)) = some r := by rw [if_pos rfl] at H; exact H
                clear H
                have H := H1
                clear H1
                by_cases c32 : t169 = t155
                · rw [if_pos c32] at H
                  have c32b0 : (t169 == t155) = true := beq_iff_eq.mpr c32
                  have c32b1 : (t169 != t155) = false := bne_eq_false_iff_eq.mpr c32
                  clear c32
                  (first | rw [c32b0] | (simp only [i64_w, i32_w]; rw [c32b0]) | skip)
                  have H' := Aside0.mk H
                  clear H
                  obtain ⟨Ao33, co33, eo33⟩ := Kd.R_slice HO172.out
                  subst eo33
                  obtain ⟨Ao34, co34, eo34⟩ := Kd.R_slice HO_7.out
                  subst eo34
                  go_wp2_with (first | ((with_reducible refine gate_callee (f := 15) rfl ?_); refine goesL_ (some 69) rfl rfl Try.func15 (by kernel_rfl) rfl #[.slice Ao33 t168.length co33, .slice Ao34 t154.length co34] rfl (by (try simp only [List.map_toArray, List.map_cons, List.map_nil]); first | done | rfl | (simp only [List.length_drop, List.length_take]; rfl)) ?_; (with_reducible refine (laws_eqInt64S.calls kj5 _ _ t168 _ _ t154 true _ ?side1 ?side2 ?side3 ?side4 A30.out).mono ?_); (case side1 => repeat (first | exact (Kd.R_reads' HO172.out).2.2 | (with_reducible refine Kd.C_alloc ?_ _) | (with_reducible refine Kd.C_drewN ?_ _) | (with_reducible refine Kd.C_drew ?_))); (case side2 => exact (Kd.R_reads' HO172.out).2.1); (case side3 => repeat (first | exact (Kd.R_reads' HO_7.out).2.2 | (with_reducible refine Kd.C_alloc ?_ _) | (with_reducible refine Kd.C_drewN ?_ _) | (with_reducible refine Kd.C_drew ?_))); (case side4 => exact (Kd.R_reads' HO_7.out).2.1); rintro e w' ⟨rfl, ⟨nd, rfl⟩⟩; refine ⟨_, rfl, ?_⟩))
                  go_meet
                  case rel => exact ⟨_, ((t170 != t156)), (by first | rfl | (simp; done) | (simp [*]; done)), H', ⟨by have := HJ5.out; first | omega | exact Nat.le_refl _⟩, ⟨by (with_reducible repeat (first | apply Kd.R_alloc | apply Kd.R_drewN | apply Kd.R_drew)); exact Kd.R_mono HO_10.out (fun _ hk => trivial)⟩, ⟨by repeat (first | (with_reducible first | exact HB.out | apply below_alloc | apply pw_below_drewN | apply below_drew1) | exact HB.out)⟩⟩
                · rw [if_neg c32] at H
                  have c32b0 : (t169 == t155) = false := beq_eq_false_iff_ne.mpr c32
                  have c32b1 : (t169 != t155) = true := bne_iff_ne.mpr c32
                  (first | rw [c32b0] | (simp only [i64_w, i32_w]; rw [c32b0]) | skip)
                  have H' := Aside0.mk H
                  clear H
                  obtain ⟨Ao35, co35, eo35⟩ := Kd.R_slice HO172.out
                  subst eo35
                  obtain ⟨Ao36, co36, eo36⟩ := Kd.R_slice HO_7.out
                  subst eo36
                  go_wp2_with (first | ((with_reducible refine gate_callee (f := 15) rfl ?_); refine goesL_ (some 69) rfl rfl Try.func15 (by kernel_rfl) rfl #[.slice Ao35 t168.length co35, .slice Ao36 t154.length co36] rfl (by (try simp only [List.map_toArray, List.map_cons, List.map_nil]); first | done | rfl | (simp only [List.length_drop, List.length_take]; rfl)) ?_; (with_reducible refine (laws_eqInt64S.calls kj5 _ _ t168 _ _ t154 true _ ?side1 ?side2 ?side3 ?side4 A30.out).mono ?_); (case side1 => repeat (first | exact (Kd.R_reads' HO172.out).2.2 | (with_reducible refine Kd.C_alloc ?_ _) | (with_reducible refine Kd.C_drewN ?_ _) | (with_reducible refine Kd.C_drew ?_))); (case side2 => exact (Kd.R_reads' HO172.out).2.1); (case side3 => repeat (first | exact (Kd.R_reads' HO_7.out).2.2 | (with_reducible refine Kd.C_alloc ?_ _) | (with_reducible refine Kd.C_drewN ?_ _) | (with_reducible refine Kd.C_drew ?_))); (case side4 => exact (Kd.R_reads' HO_7.out).2.1); rintro e w' ⟨rfl, ⟨nd, rfl⟩⟩; refine ⟨_, rfl, ?_⟩))
                  go_meet
                  case rel => exact ⟨_, (true), (by first | rfl | (simp; done) | (simp [*]; done)), H', ⟨by have := HJ5.out; first | omega | exact Nat.le_refl _⟩, ⟨by (with_reducible repeat (first | apply Kd.R_alloc | apply Kd.R_drewN | apply Kd.R_drew)); exact Kd.R_mono HO_10.out (fun _ hk => trivial)⟩, ⟨by repeat (first | (with_reducible first | exact HB.out | apply below_alloc | apply pw_below_drewN | apply below_drew1) | exact HB.out)⟩⟩
              · replace c31 := Bool.eq_false_iff.mpr c31
                subst c31
                have H1 : (laws_FnExactQuickOrder.j1 kj5 t166 t165 true) = some r := by rw [if_neg (show ¬ (false = true) by decide)] at H; exact H
                clear H
                have H := H1
                clear H1
                have H' := Aside0.mk H
                clear H
                obtain ⟨Ao37, co37, eo37⟩ := Kd.R_slice HO172.out
                subst eo37
                obtain ⟨Ao38, co38, eo38⟩ := Kd.R_slice HO_7.out
                subst eo38
                go_wp2_with (first | ((with_reducible refine gate_callee (f := 15) rfl ?_); refine goesL_ (some 69) rfl rfl Try.func15 (by kernel_rfl) rfl #[.slice Ao37 t168.length co37, .slice Ao38 t154.length co38] rfl (by (try simp only [List.map_toArray, List.map_cons, List.map_nil]); first | done | rfl | (simp only [List.length_drop, List.length_take]; rfl)) ?_; (with_reducible refine (laws_eqInt64S.calls kj5 _ _ t168 _ _ t154 false _ ?side1 ?side2 ?side3 ?side4 A30.out).mono ?_); (case side1 => repeat (first | exact (Kd.R_reads' HO172.out).2.2 | (with_reducible refine Kd.C_alloc ?_ _) | (with_reducible refine Kd.C_drewN ?_ _) | (with_reducible refine Kd.C_drew ?_))); (case side2 => exact (Kd.R_reads' HO172.out).2.1); (case side3 => repeat (first | exact (Kd.R_reads' HO_7.out).2.2 | (with_reducible refine Kd.C_alloc ?_ _) | (with_reducible refine Kd.C_drewN ?_ _) | (with_reducible refine Kd.C_drew ?_))); (case side4 => exact (Kd.R_reads' HO_7.out).2.1); rintro e w' ⟨rfl, ⟨nd, rfl⟩⟩; refine ⟨_, rfl, ?_⟩))
                go_meet
                case rel => exact ⟨_, (true), (by first | rfl | (simp; done) | (simp [*]; done)), H', ⟨by have := HJ5.out; first | omega | exact Nat.le_refl _⟩, ⟨by (with_reducible repeat (first | apply Kd.R_alloc | apply Kd.R_drewN | apply Kd.R_drew)); exact Kd.R_mono HO_10.out (fun _ hk => trivial)⟩, ⟨by repeat (first | (with_reducible first | exact HB.out | apply below_alloc | apply pw_below_drewN | apply below_drew1) | exact HB.out)⟩⟩
            case rest =>
              clear HC26
              try clear c1
              try clear c2
              try clear p2
              try clear c3
              try clear c5
              try clear c10
              try clear c11
              try clear c11b0
              try clear c11b1
              try clear c15
              try clear c16
              try clear c17
              try clear c18
              try clear c19
              try clear c21
              try clear c21b0
              try clear c24
              try clear c24b0
              try clear c24b1
              try clear c31
              try clear c32
              try clear c32b0
              try clear c32b1
              try clear p2
              obtain ⟨kq, x80_25, rfl, HA, HJ25, HO_10, HB⟩ := hcut
              have hl10_25 := (Kd.R_reads' HO_10.out).1
              rw [hl10_25] at HO_10
              (try simp only [hl10_25])
              cases kq with
              | zero => exact absurd HA.out (by simp [laws_FnExactQuickOrder.j1])
              | succ kj25 =>
                have H := HA.out
                clear HA
                simp only [laws_FnExactQuickOrder.j1] at H
                by_cases c39 : x80_25 = true
                · subst c39
                  have H1 : (some false) = some r := by rw [if_pos rfl] at H; exact H
                  clear H
                  have H := H1
                  clear H1
                  obtain rfl := Option.some.inj H
                  go_wp2
                  go_ret
                  exact ⟨by first | rfl | (simp [errW_none, errW_some] <;> rfl) | (simp [*, errW_none, errW_some] <;> rfl), by repeat (first | (with_reducible first | exact HB.out | apply below_alloc | apply pw_below_drewN | apply below_drew1) | exact HB.out)⟩
                · replace c39 := Bool.eq_false_iff.mpr c39
                  subst c39
                  have H1 : ((laws_heldInt64S.f kj25 t166 1).bind fun t174 => (if t174 < 0 then (some false) else (if t174 = t165 then (some true) else (some false)))) = some r := by rw [if_neg (show ¬ (false = true) by decide)] at H; exact H
                  clear H
                  have H := H1
                  clear H1
                  replace H := Option.bind_eq_some_iff.mp H
                  obtain ⟨t174, A400, H⟩ := H
                  replace H : (if t174 < 0 then (some false) else (if t174 = t165 then (some true) else (some false))) = some r := H
                  have A40 := Aside0.mk A400
                  clear A400
                  by_cases c41 : t174 < 0
                  · rw [if_pos c41] at H
                    have c41b0 : decide (t174 < 0) = true := decide_eq_true c41
                    clear c41
                    obtain rfl := Option.some.inj H
                    go_wp2_with (first | ((with_reducible refine gate_callee (f := 17) rfl ?_); refine goesL_ (some 83) rfl rfl Try.func17 (by kernel_rfl) rfl #[.slice Ao27 t166.length co27, .int .i64 1] rfl (by (try simp only [List.map_toArray, List.map_cons, List.map_nil]); first | done | rfl | (simp only [List.length_drop, List.length_take]; rfl)) ?_; (with_reducible refine (laws_heldInt64S.calls kj25 _ _ t166 1 t174 _ ?side1 ?side2 A40.out).mono ?_); (case side1 => repeat (first | exact (Kd.R_reads' HO_10.out).2.2 | (with_reducible refine Kd.C_alloc ?_ _) | (with_reducible refine Kd.C_drewN ?_ _) | (with_reducible refine Kd.C_drew ?_))); (case side2 => exact (Kd.R_reads' HO_10.out).2.1); rintro e w' ⟨rfl, ⟨nd, rfl⟩⟩; refine ⟨_, rfl, ?_⟩))
                    go_ret
                    exact ⟨by first | rfl | (simp [errW_none, errW_some] <;> rfl) | (simp [*, errW_none, errW_some] <;> rfl), by repeat (first | (with_reducible first | exact HB.out | apply below_alloc | apply pw_below_drewN | apply below_drew1) | exact HB.out)⟩
                  · rw [if_neg c41] at H
                    have c41b0 : decide (t174 < 0) = false := decide_eq_false c41
                    clear c41
                    by_cases c42 : t174 = t165
                    · rw [if_pos c42] at H
                      have c42b0 : (t174 == t165) = true := beq_iff_eq.mpr c42
                      have c42b1 : (t174 != t165) = false := bne_eq_false_iff_eq.mpr c42
                      clear c42
                      obtain rfl := Option.some.inj H
                      go_wp2_with (first | ((with_reducible refine gate_callee (f := 17) rfl ?_); refine goesL_ (some 83) rfl rfl Try.func17 (by kernel_rfl) rfl #[.slice Ao27 t166.length co27, .int .i64 1] rfl (by (try simp only [List.map_toArray, List.map_cons, List.map_nil]); first | done | rfl | (simp only [List.length_drop, List.length_take]; rfl)) ?_; (with_reducible refine (laws_heldInt64S.calls kj25 _ _ t166 1 t174 _ ?side1 ?side2 A40.out).mono ?_); (case side1 => repeat (first | exact (Kd.R_reads' HO_10.out).2.2 | (with_reducible refine Kd.C_alloc ?_ _) | (with_reducible refine Kd.C_drewN ?_ _) | (with_reducible refine Kd.C_drew ?_))); (case side2 => exact (Kd.R_reads' HO_10.out).2.1); rintro e w' ⟨rfl, ⟨nd, rfl⟩⟩; refine ⟨_, rfl, ?_⟩))
                      go_ret
                      exact ⟨by first | rfl | (simp [errW_none, errW_some] <;> rfl) | (simp [*, errW_none, errW_some] <;> rfl), by repeat (first | (with_reducible first | exact HB.out | apply below_alloc | apply pw_below_drewN | apply below_drew1) | exact HB.out)⟩
                    · rw [if_neg c42] at H
                      have c42b0 : (t174 == t165) = false := beq_eq_false_iff_ne.mpr c42
                      have c42b1 : (t174 != t165) = true := bne_iff_ne.mpr c42
                      obtain rfl := Option.some.inj H
                      go_wp2_with (first | ((with_reducible refine gate_callee (f := 17) rfl ?_); refine goesL_ (some 83) rfl rfl Try.func17 (by kernel_rfl) rfl #[.slice Ao27 t166.length co27, .int .i64 1] rfl (by (try simp only [List.map_toArray, List.map_cons, List.map_nil]); first | done | rfl | (simp only [List.length_drop, List.length_take]; rfl)) ?_; (with_reducible refine (laws_heldInt64S.calls kj25 _ _ t166 1 t174 _ ?side1 ?side2 A40.out).mono ?_); (case side1 => repeat (first | exact (Kd.R_reads' HO_10.out).2.2 | (with_reducible refine Kd.C_alloc ?_ _) | (with_reducible refine Kd.C_drewN ?_ _) | (with_reducible refine Kd.C_drew ?_))); (case side2 => exact (Kd.R_reads' HO_10.out).2.1); rintro e w' ⟨rfl, ⟨nd, rfl⟩⟩; refine ⟨_, rfl, ?_⟩))
                      go_ret
                      exact ⟨by first | rfl | (simp [errW_none, errW_some] <;> rfl) | (simp [*, errW_none, errW_some] <;> rfl), by repeat (first | (with_reducible first | exact HB.out | apply below_alloc | apply pw_below_drewN | apply below_drew1) | exact HB.out)⟩
          · rw [if_neg c24] at H
            have c24b0 : (t167 == t165) = false := beq_eq_false_iff_ne.mpr c24
            have c24b1 : (t167 != t165) = true := bne_iff_ne.mpr c24
            obtain rfl := Option.some.inj H
            obtain ⟨Ao43, co43, eo43⟩ := Kd.R_slice HO_10.out
            subst eo43
            go_wp2_with (first | ((with_reducible refine gate_callee (f := 16) rfl ?_); refine goesL_ (some 50) rfl rfl Try.func16 (by kernel_rfl) rfl #[.slice Ao43 t159.length co43, .int .i64 1] rfl (by (try simp only [List.map_toArray, List.map_cons, List.map_nil]); first | done | rfl | (simp only [List.length_drop, List.length_take]; rfl)) ?_; (with_reducible refine (laws_markInt64S.calls kj5 (fun k_ => some k_ = (.slice Ao43 t159.length co43 : Value).ownBlock) (.slice Ao43 t159.length co43) t159 1 t165 t166 w _ ?side1 ?side2 A19.out).mono ?_); (case side1 => repeat (first | (with_reducible first | exact HB.out | apply below_alloc | apply pw_below_drewN | apply below_drew1) | exact HB.out)); (case side2 => exact Kd.R_tight rfl HO_10.out); rintro e w44 ⟨rfl, hy0, hb, hkp⟩; refine ⟨_, rfl, ?_⟩; have n0_ := Aside0.mk (Kd.R_mono (ok' := fun k_ => some k_ ≠ (.slice Ao43 t159.length co43 : Value).ownBlock) (Kd.R_keptB (HO_7.out) hkp (fun k_ hk_ hs_ => (hk_) hs_)) (fun k_ hk_ => hk_.1)); have n1_ := Aside0.mk (Kd.R_reok rfl hy0 (fun k_ e_ => HO_10.out.1 k_ e_)); have n2_ := Aside0.mk (hb); clear HO_7; clear HO_10; clear HB; have HO_7 := n0_; have HO_10 := n1_; have HB := n2_; clear n0_ n1_ n2_; (try clear hb); (try clear hkp); (try clear hy0)) | ((with_reducible refine gate_callee (f := 17) rfl ?_); refine goesL_ (some 53) rfl rfl Try.func17 (by kernel_rfl) rfl #[.slice Ao43 t166.length co43, .int .i64 1] rfl (by (try simp only [List.map_toArray, List.map_cons, List.map_nil]); first | done | (rw [show t166.length = t159.length from (Kd.R_reads' HO_10.out).1.symm] <;> rfl) | rfl | (simp only [List.length_drop, List.length_take]; rfl)) ?_; (with_reducible refine (laws_heldInt64S.calls kj5 _ _ t166 1 t167 _ ?side1 ?side2 A20.out).mono ?_); (case side1 => repeat (first | exact (Kd.R_reads' HO_10.out).2.2 | (with_reducible refine Kd.C_alloc ?_ _) | (with_reducible refine Kd.C_drewN ?_ _) | (with_reducible refine Kd.C_drew ?_))); (case side2 => rw [show t166.length = t159.length from (Kd.R_reads' HO_10.out).1.symm]; exact (Kd.R_reads' HO_10.out).2.1); rintro e w' ⟨rfl, ⟨nd, rfl⟩⟩; refine ⟨_, rfl, ?_⟩))
            go_ret
            exact ⟨by first | rfl | (simp [errW_none, errW_some] <;> rfl) | (simp [*, errW_none, errW_some] <;> rfl), by repeat (first | (with_reducible first | exact HB.out | apply below_alloc | apply pw_below_drewN | apply below_drew1) | exact HB.out)⟩

/-- THE ONE PURE STATEMENT of laws_FnExactQuickOrder: yours. -/
def laws_FnExactQuickOrder.Pure : Prop := ∀ (a0 : Int) (a1 : Int) (a2 : Int), (Lit.int .i64 a0).wf = true → (Lit.int .i64 a1).wf = true → (Lit.int .i64 a2).wf = true → ∃ k, laws_FnExactQuickOrder.f k a0 a1 a2 = some true
theorem laws_FnExactQuickOrder.walk (P : laws_FnExactQuickOrder.Pure) (a0 : Int) (a1 : Int) (a2 : Int) (w : World) (w0 : (Lit.int .i64 a0).wf = true) (w1 : (Lit.int .i64 a1).wf = true) (w2 : (Lit.int .i64 a2).wf = true) :
    Calls Try.prog 5 #[.int .i64 a0, .int .i64 a1, .int .i64 a2] w fun e w' => e = .returned (.bool true) ∧ Below w.heap.size w w' := by
  obtain ⟨k, h⟩ := P a0 a1 a2 w0 w1 w2
  refine (laws_FnExactQuickOrder.calls k a0 a1 a2 true w h).mono ?_
  rintro e w' ⟨rfl, hd⟩
  exact ⟨rfl, hd⟩

end Go.Proofs.Ytfpddpkloplpeaa.QFnExactQuickOrder
