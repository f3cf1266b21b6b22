/- Walks of the Go functions that the law FnPasting reaches: written by a program of this session. -/
import Derived.Test.YtfpddpkloplpeaaQFnPastingx0
import Derived.Test.YtfpddpkloplpeaaQFnPastingx1
import Derived.Test.YtfpddpkloplpeaaQFnPastingx2
namespace Go.Proofs.Ytfpddpkloplpeaa.QFnPasting
open Go.RowKit Go.Proofs.YtfpddpkloplpeaaW.PrintWords Go.Proofs.YtfpddpkloplpeaaW.PrintLast Go.Proofs.YtfpddpkloplpeaaW.PrintMore
attribute [local go_sem] max2_int min2_int max_two min_two max_three min_three max_four min_four   -- for this text's walks alone
set_option linter.unusedVariables false
set_option linter.unusedSimpArgs false

/-! ### spec_QuickOrder: function 18 -/
/-- The search's state: a block of six cells, two of them rows of the call's own. -/
def QS (w0 W : World) (g : Nat) (n e d : Int) (o b : List Int) (t : Int) : Prop := ∃ vO vB : Value, W.heap[g]? = some (.cells #[.int .i64 n, .int .i64 e, .int .i64 d, vO, vB, .int .i64 t] 52 (0, 0)) ∧ w0.heap.size ≤ g ∧ Kd.R (Kd.int .i64) 2 W w0.heap.size (fun k => k ≠ g) vO o ∧ Kd.R (Kd.int .i64) 2 W w0.heap.size (fun k => k ≠ g ∧ some k ≠ vO.ownBlock) vB b ∧ Below w0.heap.size w0 W
theorem QS.below {w0 W W1 : World} {g : Nat} {n e d : Int} {o b : List Int} {t : Int} (h : QS w0 W g n e d o b t) (hb : Below W.heap.size W W1) : QS w0 W1 g n e d o b t := by
  obtain ⟨vO, vB, h1, h2, h3, h4, h5⟩ := h
  exact ⟨vO, vB, blk_below h1 hb, h2, Kd.R_below h3 hb, Kd.R_below h4 hb, below_then h5 h5.size hb⟩
/-- Another best order, one that was made just now. -/
theorem QS.found {w0 W W1 : World} {g : Nat} {n e d : Int} {o b : List Int} {t : Int} {y : List Int} {vN : Value} (h : QS w0 W g n e d o b t) (hN : Kd.R (Kd.int .i64) 2 W1 W.heap.size (fun _ => True) vN y) (hb : Below W.heap.size W W1) : QS w0 (W1.setCell ⟨g, 4, none⟩ vN) g n e d o y t := by
  obtain ⟨vO, vB, h1, h2, h3, h4, h5⟩ := h
  have hn : Kd.R (Kd.int .i64) 2 W1 w0.heap.size (fun k => k ≠ g ∧ some k ≠ vO.ownBlock) vN y :=
    Kd.R_mono (Kd.R_lower (Kd.R_new' (u := vO) (Kd.R_newB hN h1) (Kd.R_lt h3)) h5.size) (fun k hk => ⟨hk.1.2, hk.2⟩)
  exact ⟨vO, vN, blk_put (blk_below h1 hb) 4 _ rfl, h2, Kd.R_far (Kd.R_below h3 hb) (fun k hk => hk) _, Kd.R_far hn (fun k hk => hk.1) _, (below_then h5 h5.size hb).setCell h2 _⟩
theorem QS.least {w0 W : World} {g : Nat} {n e d : Int} {o b : List Int} {t : Int} (h : QS w0 W g n e d o b t) (t' : Int) : QS w0 (W.setCell ⟨g, 5, none⟩ (.int .i64 t')) g n e d o b t' := by
  obtain ⟨vO, vB, h1, h2, h3, h4, h5⟩ := h
  exact ⟨vO, vB, blk_put h1 5 _ rfl, h2, Kd.R_far h3 (fun k hk => hk) _, Kd.R_far h4 (fun k hk => hk.1) _, h5.setCell h2 _⟩
/-- The order grows. -/
theorem QS.grown {w0 W W1 : World} {g : Nat} {n e d : Int} {o b : List Int} {t x : Int} {vO vB v1 : Value} (h1 : W.heap[g]? = some (.cells #[.int .i64 n, .int .i64 e, .int .i64 d, vO, vB, .int .i64 t] 52 (0, 0))) (h2 : w0.heap.size ≤ g) (h3 : Kd.R (Kd.int .i64) 2 W w0.heap.size (fun k => k ≠ g) vO o) (h4 : Kd.R (Kd.int .i64) 2 W w0.heap.size (fun k => k ≠ g ∧ some k ≠ vO.ownBlock) vB b)
    (ho : Kd.R (Kd.int .i64) 2 W1 w0.heap.size (fun k => k ≠ g) v1 (o ++ [x])) (hb : Below w0.heap.size w0 W1) (hg : W.grownBy W1 vO.ownBlock) (hat : v1.ownBlock = vO.ownBlock ∨ ∃ b, v1.ownBlock = some b ∧ W.heap.size ≤ b) : QS w0 (W1.setCell ⟨g, 3, none⟩ v1) g n e d (o ++ [x]) b t :=
  ⟨v1, vB, blk_put (blk_grown h1 hg (fun e => h3.1 g e.symm rfl)) 3 _ rfl, h2, Kd.R_far ho (fun k hk => hk) _, Kd.R_far (Kd.R_after h4 hg hat) (fun k hk => hk.1) _, hb.setCell h2 _⟩
/-- The order is what it was. -/
theorem QS.back {w0 W : World} {g : Nat} {n e d : Int} {o b : List Int} {t x : Int} {A : Option Addr} {m c : Nat} {vB : Value} (h1 : W.heap[g]? = some (.cells #[.int .i64 n, .int .i64 e, .int .i64 d, .slice A m c, vB, .int .i64 t] 52 (0, 0))) (h2 : w0.heap.size ≤ g) (h3 : Kd.R (Kd.int .i64) 2 W w0.heap.size (fun k => k ≠ g) (.slice A m c) (o ++ [x])) (h4 : Kd.R (Kd.int .i64) 2 W w0.heap.size (fun k => k ≠ g ∧ some k ≠ (Value.slice A m c).ownBlock) vB b) (hb : Below w0.heap.size w0 W) : QS w0 (W.setCell ⟨g, 3, none⟩ (.slice A o.length c)) g n e d o b t := by
  have ht := Kd.R_take (m := o.length) h3 (by simp)
  rw [List.take_left' rfl] at ht
  have he : (Value.slice A m c).ownBlock = (Value.slice A o.length c).ownBlock := by cases A <;> rfl
  rw [he] at h4
  exact ⟨_, vB, blk_put h1 3 _ rfl, h2, Kd.R_far ht (fun k hk => hk) _, Kd.R_far h4 (fun k hk => hk.1) _, hb.setCell h2 _⟩
mutual
def qs_walk : Nat → Int → Int → Int → List Int → List Int → Int → Option (List Int × Int)
  | 0, _, _, _, _, _, _ => none
  | k + 1, n, e, d, o, b, t => if (o.length : Int) = n then ((spec_l18End.f k o e d).bind fun x => if t < 0 then ((spec_l00Own.f o).bind fun y => some (y, x)) else (if x < t then ((spec_l00Own.f o).bind fun y => some (y, x)) else some (b, t))) else qs_loop k n e d o b t 0
def qs_loop : Nat → Int → Int → Int → List Int → List Int → Int → Int → Option (List Int × Int)
  | 0, _, _, _, _, _, _, _ => none
  | k + 1, n, e, d, o, b, t, g => if g < n then ((spec_l00Has.f k o g).bind fun h => if h = true then qs_loop k n e d o b t (wrap64 (g + 1)) else (if o.length < 1000 then ((qs_walk k n e d (o ++ [g]) b t).bind fun r => qs_loop k n e d o r.1 r.2 (wrap64 (g + 1))) else none)) else some (b, t)
end
theorem qs_mono : ∀ k, (∀ n e d o b t, LeO (qs_walk k n e d o b t) (qs_walk (k + 1) n e d o b t)) ∧ (∀ n e d o b t g, LeO (qs_loop k n e d o b t g) (qs_loop (k + 1) n e d o b t g))
  | 0 => ⟨fun _ _ _ _ _ _ r h => by simp [qs_walk] at h, fun _ _ _ _ _ _ _ r h => by simp [qs_loop] at h⟩
  | k + 1 => by
    obtain ⟨i1, i2⟩ := qs_mono k
    constructor
    · intro n e d o b t
      rw [qs_walk, qs_walk]
      repeat' first
        | (with_reducible exact i1 _ _ _ _ _ _)
        | (with_reducible exact i2 _ _ _ _ _ _ _)
        | (with_reducible exact spec_l18End.mono _ _ _ _)
        | (with_reducible exact LeO.refl _)
        | (with_reducible refine LeO.ite ?_ ?_)
        | (with_reducible refine LeO.bind ?_ (fun _ => ?_))
    · intro n e d o b t g
      rw [qs_loop, qs_loop]
      repeat' first
        | (with_reducible exact i1 _ _ _ _ _ _)
        | (with_reducible exact i2 _ _ _ _ _ _ _)
        | (with_reducible exact spec_l00Has.mono _ _ _)
        | (with_reducible exact LeO.refl _)
        | (with_reducible refine LeO.ite ?_ ?_)
        | (with_reducible refine LeO.bind ?_ (fun _ => ?_))
def spec_QuickOrder.f (k : Nat) (a0 a1 a2 : Int) : Option (List Int × Int × Int) := (spec_l00In.f a0 2 7).bind fun x => if x = true then ((spec_l18Times.f a1 a2).bind fun y => if y = true then ((qs_walk k a0 a1 a2 [] [] (-1)).bind fun r => some (r.1, r.2, 0)) else some ([], 0, 2)) else some ([], 0, 2)
theorem spec_QuickOrder.mono : ∀ a0 a1 a2 k, LeO (spec_QuickOrder.f k a0 a1 a2) (spec_QuickOrder.f (k + 1) a0 a1 a2) := fun _ _ _ k => LeO.bind (LeO.refl _) (fun _ => LeO.ite (LeO.bind (LeO.refl _) (fun _ => LeO.ite (LeO.bind ((qs_mono k).1 _ _ _ _ _ _) (fun _ => LeO.refl _)) (LeO.refl _))) (LeO.refl _))
/-- What the walk reads of the state. -/
theorem QS.opened {w0 W : World} {g : Nat} {n e d : Int} {o b : List Int} {t : Int} (h : QS w0 W g n e d o b t) : ∃ (A : Option Addr) (c : Nat) (vB : Value), W.cell? ⟨g, 0, none⟩ = some (.int .i64 n) ∧ W.cell? ⟨g, 1, none⟩ = some (.int .i64 e) ∧ W.cell? ⟨g, 2, none⟩ = some (.int .i64 d) ∧ W.cell? ⟨g, 3, none⟩ = some (.slice A o.length c) ∧ W.cell? ⟨g, 4, none⟩ = some vB ∧ W.cell? ⟨g, 5, none⟩ = some (.int .i64 t) ∧ W.frozen? ⟨g, 3, none⟩ = false ∧ W.frozen? ⟨g, 4, none⟩ = false ∧ W.frozen? ⟨g, 5, none⟩ = false ∧ Aside0 (Kd.C (Kd.int .i64) W A o.length o) ∧ Aside0 (o.length ≤ c) := by
  obtain ⟨vO, vB, hblk, hg, hO, hB, hb⟩ := h
  obtain ⟨A, c, rfl, hc, hC⟩ := Kd.R_reads hO
  exact ⟨A, c, vB, (blk_cell hblk 0).trans rfl, (blk_cell hblk 1).trans rfl, (blk_cell hblk 2).trans rfl, (blk_cell hblk 3).trans rfl, (blk_cell hblk 4).trans rfl, (blk_cell hblk 5).trans rfl, blk_frozen hblk 3, blk_frozen hblk 4, blk_frozen hblk 5, ⟨hC⟩, ⟨hc⟩⟩
theorem QS.raw {w0 W : World} {g : Nat} {n e d : Int} {o b : List Int} {t : Int} {v : Value} (h : QS w0 W g n e d o b t) (hv : W.cell? ⟨g, 3, none⟩ = some v) : ∃ vB, W.heap[g]? = some (.cells #[.int .i64 n, .int .i64 e, .int .i64 d, v, vB, .int .i64 t] 52 (0, 0)) ∧ w0.heap.size ≤ g ∧ Kd.R (Kd.int .i64) 2 W w0.heap.size (fun k => k ≠ g) v o ∧ Kd.R (Kd.int .i64) 2 W w0.heap.size (fun k => k ≠ g ∧ some k ≠ v.ownBlock) vB b ∧ Below w0.heap.size w0 W := by
  obtain ⟨vO, vB, hblk, hg, hO, hB, hb⟩ := h
  have := ((blk_cell hblk 3).trans rfl : W.cell? ⟨g, 3, none⟩ = some vO)
  rw [hv] at this
  obtain rfl := Option.some.inj this
  exact ⟨vB, hblk, hg, hO, hB, hb⟩
theorem QS.drew {w0 W : World} {g : Nat} {n e d : Int} {o b : List Int} {t : Int} (h : QS w0 W g n e d o b t) : QS w0 W.drew g n e d o b t := h.below (below_drew (Below.refl _ _))
theorem QS.drewN {w0 W : World} {g : Nat} {n e d : Int} {o b : List Int} {t : Int} (h : QS w0 W g n e d o b t) (q : Nat) : QS w0 (W.drewN q) g n e d o b t := h.below (pw_below_drewN (Below.refl _ _) q)
theorem QS.far {w0 W : World} {g : Nat} {n e d : Int} {o b : List Int} {t : Int} {A : Option Addr} {m c : Nat} (h : QS w0 W g n e d o b t) (hv : W.cell? ⟨g, 3, none⟩ = some (.slice A m c)) (j : Nat) (u : Value) : Kd.C (Kd.int .i64) (W.setCell ⟨g, j, none⟩ u) A o.length o := by
  obtain ⟨vB, h1, h2, h3, h4, h5⟩ := h.raw hv
  exact (Kd.R_reads' (Kd.R_far (p := ⟨g, j, none⟩) h3 (fun k hk => hk) u)).2.2
set_option maxRecDepth 100000 in
set_option maxHeartbeats 8000000 in
theorem qs_walk_end (w0 : World) (g : Nat) (n e d : Int) (k : Nat) (o b : List Int) (t : Int) (r : List Int × Int) (W : World) (hQ : QS w0 W g n e d o b t) (h : qs_walk (k + 1) n e d o b t = some r) (c0 : (o.length : Int) = n) :
    Calls Try.prog 42 #[.pointer (some ⟨g, 0, none⟩)] W fun x w' => x = .returned (.tuple #[]) ∧ QS w0 w' g n e d o r.1 r.2 := by
  have HQ := Aside0.mk hQ
  obtain ⟨A, c, vB, z0, z1, z2, z3, z4, z5, f3, f4, f5, HC, HCC⟩ := hQ.opened
  clear hQ
  have c0b : ((o.length : Int) == n) = true := by simp [c0]
  simp only [qs_walk] at h
  rw [if_pos c0] at h
  obtain ⟨x, hx, h⟩ := Option.bind_eq_some_iff.mp h
  have HX := Aside0.mk hx
  clear hx c0
  by_cases c1 : t < 0
  · rw [if_pos c1] at h
    obtain ⟨y, hy, h⟩ := Option.bind_eq_some_iff.mp h
    obtain rfl := Option.some.inj h
    have c1b : decide (t < 0) = true := decide_eq_true c1
    have HY := Aside0.mk hy
    clear hy h c1
    go_enter Try.func42, Try.ntmps42
    go_wp2
    go_still_tail 12, (by kernel_rfl)
    change wpList _ _ _ _ _ W.drew
    go_wp2_with (first | (go_at_call 57; refine (spec_l18End.calls k _ _ o e d x _ (Kd.C_drew HC.out) HCC.out HX.out).mono ?_; rintro e_ w1 ⟨rfl, hb1⟩; have HQ1 := Aside0.mk (HQ.out.drew.below hb1); clear hb1 HQ z0 z1 z2 z3 z4 z5 f3 f4 f5 HC HCC; obtain ⟨A1, c1, vB1, z0, z1, z2, z3, z4, z5, f3, f4, f5, HC, HCC⟩ := HQ1.out.opened) | (go_at_call 65; refine (spec_l00Own.calls _ _ o y _ (HQ1.out.far z3 5 (.int .i64 x)) HCC.out HY.out).mono ?_; rintro e_ w2 ⟨vN, rfl, hN, hb2⟩; obtain ⟨AN, cN, rfl, _, _⟩ := Kd.R_reads hN; have HN := Aside0.mk ((HQ1.out.least x).found hN hb2); have HQ3 := Aside0.mk ((HQ1.out.least x).below hb2); clear hN hb2 HQ1 z0 z1 z2 z3 z4 z5 f3 f4 f5 HC HCC; obtain ⟨A1, c1, vB1, z0, z1, z2, z3, z4, z5, f3, f4, f5, HC, HCC⟩ := HQ3.out.opened))
    first | (refine bodyPost_ret (results_none rfl _ _ _) rfl ?_)
    exact ⟨rfl, HN.out⟩
  · rw [if_neg c1] at h
    have c1b : decide (t < 0) = false := decide_eq_false c1
    clear c1
    by_cases c2 : x < t
    · rw [if_pos c2] at h
      obtain ⟨y, hy, h⟩ := Option.bind_eq_some_iff.mp h
      obtain rfl := Option.some.inj h
      have c2b : decide (x < t) = true := decide_eq_true c2
      have HY := Aside0.mk hy
      clear hy h c2
      go_enter Try.func42, Try.ntmps42
      go_wp2
      go_still_tail 12, (by kernel_rfl)
      change wpList _ _ _ _ _ W.drew
      go_wp2_with (first | (go_at_call 57; refine (spec_l18End.calls k _ _ o e d x _ (Kd.C_drew HC.out) HCC.out HX.out).mono ?_; rintro e_ w1 ⟨rfl, hb1⟩; have HQ1 := Aside0.mk (HQ.out.drew.below hb1); clear hb1 HQ z0 z1 z2 z3 z4 z5 f3 f4 f5 HC HCC; obtain ⟨A1, c1, vB1, z0, z1, z2, z3, z4, z5, f3, f4, f5, HC, HCC⟩ := HQ1.out.opened) | (go_at_call 65; refine (spec_l00Own.calls _ _ o y _ (HQ1.out.far z3 5 (.int .i64 x)) HCC.out HY.out).mono ?_; rintro e_ w2 ⟨vN, rfl, hN, hb2⟩; obtain ⟨AN, cN, rfl, _, _⟩ := Kd.R_reads hN; have HN := Aside0.mk ((HQ1.out.least x).found hN hb2); have HQ3 := Aside0.mk ((HQ1.out.least x).below hb2); clear hN hb2 HQ1 z0 z1 z2 z3 z4 z5 f3 f4 f5 HC HCC; obtain ⟨A1, c1, vB1, z0, z1, z2, z3, z4, z5, f3, f4, f5, HC, HCC⟩ := HQ3.out.opened))
      first | (refine bodyPost_ret (results_none rfl _ _ _) rfl ?_)
      exact ⟨rfl, HN.out⟩
    · rw [if_neg c2] at h
      obtain rfl := Option.some.inj h
      have c2b : decide (x < t) = false := decide_eq_false c2
      clear h c2
      go_enter Try.func42, Try.ntmps42
      go_wp2
      go_still_tail 12, (by kernel_rfl)
      change wpList _ _ _ _ _ W.drew
      go_wp2_with (first | (go_at_call 57; refine (spec_l18End.calls k _ _ o e d x _ (Kd.C_drew HC.out) HCC.out HX.out).mono ?_; rintro e_ w1 ⟨rfl, hb1⟩; have HQ1 := Aside0.mk (HQ.out.drew.below hb1); clear hb1 HQ z0 z1 z2 z3 z4 z5 f3 f4 f5 HC HCC; obtain ⟨A1, c1, vB1, z0, z1, z2, z3, z4, z5, f3, f4, f5, HC, HCC⟩ := HQ1.out.opened))
      first | (refine bodyPost_ret (results_none rfl _ _ _) rfl ?_)
      exact ⟨rfl, HQ1.out⟩
set_option maxRecDepth 100000 in
set_option maxHeartbeats 8000000 in
theorem qs_walk_calls (w0 : World) (g : Nat) (n e d : Int) : ∀ (k : Nat) (o b : List Int) (t : Int) (r : List Int × Int) (W : World), QS w0 W g n e d o b t → qs_walk k n e d o b t = some r →
    Calls Try.prog 42 #[.pointer (some ⟨g, 0, none⟩)] W fun x w' => x = .returned (.tuple #[]) ∧ QS w0 w' g n e d o r.1 r.2 := by
  intro k
  induction k using Nat.strongRecOn with
  | ind k ih =>
  intro o b t r W hQ h
  cases k with
  | zero => exact absurd h (by simp [qs_walk])
  | succ k =>
    by_cases c0 : (o.length : Int) = n
    · exact qs_walk_end w0 g n e d k o b t r W hQ h c0
    have IH := Aside0.mk ih
    clear ih
    have HQ := Aside0.mk hQ
    obtain ⟨A, c, vB, z0, z1, z2, z3, z4, z5, f3, f4, f5, HC, HCC⟩ := hQ.opened
    clear hQ
    have c0b : ((o.length : Int) == n) = false := by simp [c0]
    simp only [qs_walk] at h
    rw [if_neg c0] at h
    have H := Aside0.mk h
    clear h c0
    go_enter Try.func42, Try.ntmps42
    go_wp2
    clear z0 z1 z2 z3 z4 z5 f3 f4 f5 c0b
    go_loopg [4] k (fun kq v4 w' => ∃ (gI : Int) (b1 : List Int) (t1 : Int), v4 = .int .i64 gI ∧ Aside0 (qs_loop kq n e d o b1 t1 gI = some r) ∧ Aside0 (kq ≤ k) ∧ Aside0 (QS w0 w' g n e d o b1 t1))
    case atStart => exact ⟨0, b, t, rfl, H, ⟨Nat.le_refl _⟩, HQ⟩
    case round =>
      clear H HQ HC HCC
      obtain ⟨gI, b1, t1, rfl, HA, HK, HQ⟩ := hrel
      cases gk with
      | zero => exact absurd HA.out (by simp [qs_loop])
      | succ k2 =>
        have h := HA.out
        clear HA
        simp only [qs_loop] at h
        obtain ⟨A, c, vB, z0, z1, z2, z3, z4, z5, f3, f4, f5, HC, HCC⟩ := HQ.out.opened
        by_cases c5 : gI < n
        · rw [if_pos c5] at h
          have c5b : decide (gI < n) = true := decide_eq_true c5
          clear c5
          obtain ⟨hh, hHas, h⟩ := Option.bind_eq_some_iff.mp h
          have HAS := Aside0.mk hHas
          clear hHas
          cases hh with
          | true =>
            rw [if_pos rfl] at h
            have H := Aside0.mk h
            clear h
            go_wp2_with (go_at_call 66; refine (spec_l00Has.calls k2 _ _ o gI true _ HC.out HCC.out HAS.out).mono ?_; rintro e_ w1 ⟨rfl, ⟨nd, rfl⟩⟩)
            go_roundg k2
            case measure => omega
            case rel => exact ⟨_, b1, t1, rfl, H, ⟨by have := HK.out; omega⟩, ⟨HQ.out.drewN nd⟩⟩
          | false =>
            rw [if_neg (by simp)] at h
            by_cases c6 : o.length < 1000
            · rw [if_pos c6] at h
              obtain ⟨r2, hw, h⟩ := Option.bind_eq_some_iff.mp h
              have HW := Aside0.mk hw
              have H := Aside0.mk h
              have C6 := Aside0.mk c6
              clear h hw c6
              go_wp2_with (first | (go_at_call 66; refine (spec_l00Has.calls k2 _ _ o gI false _ HC.out HCC.out HAS.out).mono ?_; rintro e_ w1 ⟨rfl, ⟨nd, rfl⟩⟩; obtain ⟨vB2, r1, r2_, r3, r4, r5⟩ := (HQ.out.drewN nd).raw (v := .slice A o.length c) z3; have R1 := Aside0.mk r1; have R2 := Aside0.mk r2_; have R3 := Aside0.mk r3; have R4 := Aside0.mk r4; have R5 := Aside0.mk r5; clear r1 r2_ r3 r4 r5) | ((with_reducible refine gate_builtin (b := .append) (xs := #[.tmp 72, .tmp 74]) rfl ?_); at_builtin; refine Kd.R_append (Kd.int .i64) (w0 := w0) w0.heap.size rfl (.tmp 72) (.tmp 74) 25 2 (.int .i64 0) 8 rfl Try.underlying25 info2 rfl (by decide) (by omega) (.slice A o.length c) o gI [.int .i64 gI] (fun k_ => k_ ≠ g) (fun _ => False) rfl rfl ?aP (fun _ hk => hk.elim) ?aF ?aO ?aB ?aS ?aL ?_; (case aP => exact rfl); (case aF => exact fun k_ hk e_ => by subst e_; have := blk_lt R1.out; omega); (case aO => exact R3.out); (case aB => exact R5.out); (case aS => exact R5.out.size); (case aL => have := C6.out; omega); intro v1 w2 ho hb hg hat; obtain ⟨A1, c1, rfl, _, _⟩ := Kd.R_reads ho; have hG0 := QS.grown R1.out R2.out R3.out R4.out ho hb hg hat; simp only [List.length_append, List.length_cons, List.length_nil, Nat.zero_add] at hG0; have HG := Aside0.mk hG0; clear hG0; have hbk := blk_grown R1.out hg (fun e => R3.out.1 g e.symm rfl); have y3 := (blk_cell hbk 3).trans rfl; have y3f := blk_frozen hbk 3; clear ho hb hg hat hbk) | (go_at_call 42; refine (IH.out k2 (by have := HK.out; omega) (o ++ [gI]) b1 t1 r2 _ HG.out HW.out).mono ?_; rintro e_ w3 ⟨rfl, hQ3⟩; have HQ3 := Aside0.mk hQ3; clear hQ3 y3 y3f; obtain ⟨A3, c3, vB3, y0, y1, y2, y3, y4, y5, g3, g4, g5, HC3, HCC3⟩ := HQ3.out.opened; have s1 : (o.length : Int) ≤ (c3 : Int) := by have := HCC3.out; simp at this; omega))
              have HR := Aside0.mk (by
                obtain ⟨vB4, q1, q2, q3, q4, q5⟩ := HQ3.out.raw y3
                exact QS.back q1 q2 q3 q4 q5)
              go_roundg k2
              case measure => omega
              case rel => exact ⟨_, r2.1, r2.2, rfl, H, ⟨by have := HK.out; omega⟩, HR⟩
            · rw [if_neg c6] at h
              exact absurd h (by simp)
        · rw [if_neg c5] at h
          have c5b : decide (gI < n) = false := decide_eq_false c5
          clear c5
          obtain rfl := Option.some.inj h
          clear h
          go_wp2
          first | go_end0 | (simp only [Exit.inBlock, Exit.then]; refine bodyPost_ret (results_none rfl _ _ _) rfl ?_) | trace_state
          exact ⟨rfl, HQ.out⟩
theorem empty_R (w : World) (base : Nat) (hb : base ≤ w.heap.size) : (Kd.int .i64).R 2 (w.alloc (.cells #[] 2)) base (fun _ => True) (.slice (some ⟨w.heap.size, 0, none⟩) 0 0) [] := by
  refine ⟨fun _ _ => trivial, ?_⟩
  have h := OwnRow.lit (R := (Kd.int .i64).M (w.alloc (.cells #[] 2)) base (fun k => True ∧ some k ≠ (Value.slice (some ⟨w.heap.size, 0, none⟩) 0 0).ownBlock)) (e := 2) (size := 1) (ps := []) w base (inner := []) ?_ hb (by simp)
  · exact h
  · exact Reps.none _ _
theorem QS.start (w0 W : World) (hb : Below w0.heap.size w0 W) (n e d : Int) : QS w0 (((W.alloc (.cells #[] 2)).alloc (.cells #[] 2)).alloc (.cells #[.int .i64 n, .int .i64 e, .int .i64 d, .slice (some ⟨W.heap.size, 0, none⟩) 0 0, .slice (some ⟨(W.alloc (.cells #[] 2)).heap.size, 0, none⟩) 0 0, .int .i64 (-1)] 52)) ((W.alloc (.cells #[] 2)).alloc (.cells #[] 2)).heap.size n e d [] [] (-1) := by
  have b1 := below_alloc hb (.cells #[] 2)
  have b2 := below_alloc b1 (.cells #[] 2)
  have b3 := below_alloc b2 (.cells #[.int .i64 n, .int .i64 e, .int .i64 d, .slice (some ⟨W.heap.size, 0, none⟩) 0 0, .slice (some ⟨(W.alloc (.cells #[] 2)).heap.size, 0, none⟩) 0 0, .int .i64 (-1)] 52)
  have s1 : (W.alloc (.cells #[] 2)).heap.size ≤ ((W.alloc (.cells #[] 2)).alloc (.cells #[] 2)).heap.size := (below_alloc (Below.refl _ _) _).size
  refine ⟨_, _, blk_new _ _, b2.size, ?_, ?_, b3⟩
  · exact Kd.R_mono (Kd.R_alloc (Kd.R_alloc (Kd.R_elderB (empty_R W w0.heap.size hb.size) _ s1) _) _) (fun k hk => hk.2)
  · have h2 := empty_R (W.alloc (.cells #[] 2)) (W.alloc (.cells #[] 2)).heap.size (Nat.le_refl _)
    have h3 := Kd.R_new' (u := .slice (some ⟨W.heap.size, 0, none⟩) 0 0) h2 (Kd.R_lt (empty_R W w0.heap.size hb.size))
    exact Kd.R_mono (Kd.R_alloc (Kd.R_elderB (Kd.R_lower h3 b1.size) _ (Nat.le_refl _)) _) (fun k hk => ⟨hk.2, hk.1.2⟩)
theorem QS.told {w0 W : World} {g : Nat} {n e d : Int} {o b : List Int} {t : Int} {v : Value} (h : QS w0 W g n e d o b t) (hv : W.cell? ⟨g, 4, none⟩ = some v) : Kd.R (Kd.int .i64) 2 W w0.heap.size (fun _ => True) v b ∧ Below w0.heap.size w0 W := by
  obtain ⟨vO, vB, hblk, hg, hO, hB, hb⟩ := h
  have := ((blk_cell hblk 4).trans rfl : W.cell? ⟨g, 4, none⟩ = some vB)
  rw [hv] at this
  obtain rfl := Option.some.inj this
  exact ⟨Kd.R_mono hB (fun _ _ => trivial), hb⟩
theorem QS.start2 (w : World) (m : Nat) (n e d : Int) : QS w ((((w.drewN m).alloc (.cells #[] 2)).alloc (.cells #[] 2)).alloc (.cells #[.int .i64 n, .int .i64 e, .int .i64 d, .slice (some ⟨w.heap.size, 0, none⟩) 0 0, .slice (some ⟨w.heap.size + 1, 0, none⟩) 0 0, .int .i64 (-1)] 52)) (w.heap.size + 1 + 1) n e d [] [] (-1) := by
  have h := QS.start w (w.drewN m) (pw_below_drewN (Below.refl _ _) _) n e d
  have e1 : ∀ (W : World) (o : Obj), (W.alloc o).heap.size = W.heap.size + 1 := fun W o => by show (W.heap.push _).size = _; simp
  rw [e1 ((w.drewN m).alloc (.cells #[] 2)), e1 (w.drewN m)] at h
  exact h
set_option maxRecDepth 100000 in
set_option maxHeartbeats 8000000 in
theorem spec_QuickOrder.calls (k : Nat) (a0 a1 a2 : Int) (r1 : List Int) (r2 r3 : Int) (w : World) (h : spec_QuickOrder.f k a0 a1 a2 = some (r1, r2, r3)) :
    Calls Try.prog 18 #[.int .i64 a0, .int .i64 a1, .int .i64 a2] w fun e w' => ∃ v0_ : Value, e = .returned (.tuple #[v0_, .int .i64 r2, .int .i64 r3]) ∧ Kd.R (Kd.int .i64) 2 w' w.heap.size (fun _ => True) v0_ r1 ∧ Below w.heap.size w w' := by
  unfold spec_QuickOrder.f at h
  obtain ⟨x, hx, h⟩ := Option.bind_eq_some_iff.mp h
  have HX := Aside0.mk hx
  clear hx
  cases x with
  | false =>
    rw [if_neg (by simp)] at h
    have e := Option.some.inj h
    simp only [Prod.mk.injEq] at e
    obtain ⟨rfl, rfl, rfl⟩ := e
    clear h
    go_enter Try.func18, Try.ntmps18
    go_wp2_with (go_at_call 37; refine (spec_l00In.calls a0 2 7 false _ HX.out).mono ?_; rintro e_ w1 ⟨rfl, ⟨nd, rfl⟩⟩)
    go_ret3
    exact ⟨_, rfl, Kd.R_nil _ _ _ _ _, pw_below_drewN (Below.refl _ _) _⟩
  | true =>
    rw [if_pos rfl] at h
    obtain ⟨y, hy, h⟩ := Option.bind_eq_some_iff.mp h
    have HY := Aside0.mk hy
    clear hy
    cases y with
    | false =>
      rw [if_neg (by simp)] at h
      have e := Option.some.inj h
      simp only [Prod.mk.injEq] at e
      obtain ⟨rfl, rfl, rfl⟩ := e
      clear h
      go_enter Try.func18, Try.ntmps18
      go_wp2_with (first | (go_at_call 37; refine (spec_l00In.calls a0 2 7 true _ HX.out).mono ?_; rintro e_ w1 ⟨rfl, ⟨nd, rfl⟩⟩) | (go_at_call 41; refine (spec_l18Times.calls a1 a2 false _ HY.out).mono ?_; rintro e_ w1 ⟨rfl, ⟨nd2, rfl⟩⟩))
      go_ret3
      exact ⟨_, rfl, Kd.R_nil _ _ _ _ _, pw_below_drewN (Below.refl _ _) _⟩
    | true =>
      rw [if_pos rfl] at h
      obtain ⟨r, hr, h⟩ := Option.bind_eq_some_iff.mp h
      have e := Option.some.inj h
      simp only [Prod.mk.injEq] at e
      obtain ⟨rfl, rfl, rfl⟩ := e
      have HW := Aside0.mk hr
      clear h hr
      go_enter Try.func18, Try.ntmps18
      go_wp2_with (first | (go_at_call 37; refine (spec_l00In.calls a0 2 7 true _ HX.out).mono ?_; rintro e_ w1 ⟨rfl, ⟨nd, rfl⟩⟩) | (go_at_call 41; refine (spec_l18Times.calls a1 a2 true _ HY.out).mono ?_; rintro e_ w1 ⟨rfl, ⟨nd2, rfl⟩⟩; have HQ := Aside0.mk (QS.start2 w (nd + nd2) a0 a1 a2)) | (go_at_call 42; refine (qs_walk_calls w _ a0 a1 a2 k [] [] (-1) r _ HQ.out HW.out).mono ?_; rintro e_ w3 ⟨rfl, hQ3⟩; have HQ3 := Aside0.mk hQ3; clear hQ3; obtain ⟨A3, c3, vB3, y0, y1, y2, y3, y4, y5, g3, g4, g5, HC3, HCC3⟩ := HQ3.out.opened))
      repeat (go_quiet (fail); try go_wp2)
      go_ret3
      obtain ⟨q1, q2⟩ := HQ3.out.told y4
      exact ⟨_, rfl, by (with_reducible repeat (first | apply Kd.R_alloc | apply Kd.R_drewN | apply Kd.R_drew)); exact q1, by repeat (first | (with_reducible first | exact q2 | apply below_alloc | apply pw_below_drewN | apply below_drew1) | exact q2)⟩


/-! ### impl_isWork: function 43 -/
def impl_isWork.f (a0 : Int) (a1 : Int) : Option (Bool) := (impl_within.f a0 1 1000).bind fun t162 => (if t162 = true then ((impl_within.f a1 0 1000).bind fun t163 => (some t163)) else (some false))
set_option maxHeartbeats 8000000 in
set_option maxRecDepth 100000 in
theorem impl_isWork.calls (a0 : Int) (a1 : Int) (r : Bool) (w : World) (h : impl_isWork.f a0 a1 = some r) :
    Calls Try.prog 43 #[.int .i64 a0, .int .i64 a1] w fun e w' => e = .returned (.bool r) ∧ Drawn0 w w' := by
  have H : ((impl_within.f a0 1 1000).bind fun t162 => (if t162 = true then ((impl_within.f a1 0 1000).bind fun t163 => (some t163)) else (some false))) = some r := h
  clear h
  replace H := Option.bind_eq_some_iff.mp H
  obtain ⟨t162, A30, H⟩ := H
  replace H : (if t162 = true then ((impl_within.f a1 0 1000).bind fun t163 => (some t163)) else (some false)) = some r := H
  have A3 := Aside0.mk A30
  clear A30
  by_cases c4 : t162 = true
  · subst c4
    have H1 : ((impl_within.f a1 0 1000).bind fun t163 => (some t163)) = some r := by rw [if_pos rfl] at H; exact H
    clear H
    have H := H1
    clear H1
    replace H := Option.bind_eq_some_iff.mp H
    obtain ⟨t163, A50, H⟩ := H
    replace H : (some t163) = some r := H
    have A5 := Aside0.mk A50
    clear A50
    obtain rfl := Option.some.inj H
    go_enter Try.func43, Try.ntmps43
    go_wp2_with (first | ((with_reducible refine gate_callee (f := 38) rfl ?_); refine goesL_ (some 6) rfl rfl Try.func38 (by kernel_rfl) rfl #[.int .i64 a0, .int .i64 1, .int .i64 1000] rfl (by (try simp only [List.map_toArray, List.map_cons, List.map_nil]); first | done | rfl | (simp only [List.length_drop, List.length_take]; rfl)) ?_; (with_reducible refine (impl_within.calls a0 1 1000 true _ A3.out).mono ?_); rintro e w' ⟨rfl, ⟨nd, rfl⟩⟩; refine ⟨_, rfl, ?_⟩) | (go_at_call 38; (with_reducible refine (impl_within.calls a1 0 1000 t163 _ A5.out).mono ?_); rintro e w' ⟨rfl, ⟨nd, rfl⟩⟩))
    go_ret
    exact ⟨by first | rfl | (simp; done) | (simp [*]; done), by repeat (first | exact Drawn0.refl _ | apply Drawn0.step)⟩
  · replace c4 := Bool.eq_false_iff.mpr c4
    subst c4
    have H1 : (some false) = some r := by rw [if_neg (show ¬ (false = true) by decide)] at H; exact H
    clear H
    have H := H1
    clear H1
    obtain rfl := Option.some.inj H
    go_enter Try.func43, Try.ntmps43
    go_wp2_with (first | ((with_reducible refine gate_callee (f := 38) rfl ?_); refine goesL_ (some 6) rfl rfl Try.func38 (by kernel_rfl) rfl #[.int .i64 a0, .int .i64 1, .int .i64 1000] rfl (by (try simp only [List.map_toArray, List.map_cons, List.map_nil]); first | done | rfl | (simp only [List.length_drop, List.length_take]; rfl)) ?_; (with_reducible refine (impl_within.calls a0 1 1000 false _ A3.out).mono ?_); rintro e w' ⟨rfl, ⟨nd, rfl⟩⟩; refine ⟨_, rfl, ?_⟩))
    go_ret
    exact ⟨by first | rfl | (simp; done) | (simp [*]; done), by repeat (first | exact Drawn0.refl _ | apply Drawn0.step)⟩

-- inside a hand-given walk: function 44 (impl_eachOrder)

-- inside a hand-given walk: function 93 (bits_Mul32)

-- inside a hand-given walk: function 94 (bits_Mul64)

-- inside a hand-given walk: function 80 (bits_Mul)

/-! ### slices_Repeat_int64_int64: function 75 -/
theorem u64w (n : Int) (h0 : 0 ≤ n) (h1 : n < 18446744073709551616) : IntKind.u64.wrap n = n := by
  simp only [IntKind.wrap, IntKind.bits, IntKind.signed]; simp; omega
theorem u64_low (m : Int) (h0 : 0 ≤ m) (h1 : m ≤ 1000) : bits .and .u64 m 4294967295 = m := by
  have := bits_mask .u64 32 (by decide) (fun n a b => u64w n a (by omega)) 32 (by decide) m h0 (by omega)
  rw [show ((2 : Int) ^ 32 - 1) = 4294967295 by decide] at this
  rw [this]; omega
set_option maxHeartbeats 4000000 in
set_option maxRecDepth 100000 in
theorem mul64_one (m : Int) (h0 : 0 ≤ m) (h1 : m ≤ 1000) (w : World) : Calls Try.prog 94 #[.int .u64 1, .int .u64 m] w fun e w' => e = .returned (.tuple #[.int .u64 0, .int .u64 m]) ∧ ∃ q, w' = w.drewN q := by
  have hm := u64_low m h0 h1
  have h1' : bits .and .u64 1 4294967295 = 1 := by decide
  have hd : m / 4294967296 = 0 := by omega
  have hw := u64w m h0 (by omega)
  go_enter Try.func94, Try.ntmps94
  go_wp2
  go_ret2
  refine ⟨?_, 0, rfl⟩
  have hz : bits BinOp.and IntKind.u64 0 4294967295 = 0 := by decide
  simp only [Array.getD]
  simp [hz]
  (try decide)
set_option maxHeartbeats 4000000 in
set_option maxRecDepth 100000 in
theorem mul_one_ (m : Int) (h0 : 0 ≤ m) (h1 : m ≤ 1000) (w : World) : Calls Try.prog 80 #[.int .u64 1, .int .u64 m] w fun e w' => e = .returned (.tuple #[.int .u64 0, .int .u64 m]) ∧ ∃ q, w' = w.drewN q := by
  have H0 := Aside0.mk h0
  have H1 := Aside0.mk h1
  clear h0 h1
  go_enter Try.func80, Try.ntmps80
  go_wp2_with (go_at_call 94; refine (mul64_one m H0.out H1.out _).mono ?_; rintro e w' ⟨rfl, q, rfl⟩)
  go_ret2
  exact ⟨rfl, _, rfl⟩
/-- q times x, from place o on. -/
def splice (x : Int) : Nat → Nat → List Int → List Int
  | 0, _, xs => xs
  | q + 1, o, xs => splice x q (o + 1) (xs.set o x)
theorem splice_length (x : Int) : ∀ (q o : Nat) (xs : List Int), (splice x q o xs).length = xs.length
  | 0, _, _ => rfl
  | q + 1, o, xs => by rw [splice, splice_length x q]; simp
theorem splice_at (x : Int) : ∀ (q o : Nat) (xs : List Int) (j : Nat), j < xs.length → (splice x q o xs).getD j 0 = if o ≤ j ∧ j < o + q then x else xs.getD j 0
  | 0, o, xs, j, h => by rw [splice, if_neg (by omega)]
  | q + 1, o, xs, j, h => by
    rw [splice, splice_at x q (o + 1) (xs.set o x) j (by simpa using h)]
    by_cases e : j = o
    · subst e
      rw [if_neg (by omega), if_pos (by omega)]
      simp [List.getD_eq_getElem?_getD, h]
    · by_cases c : o + 1 ≤ j ∧ j < o + 1 + q
      · rw [if_pos c, if_pos (by omega)]
      · rw [if_neg c, if_neg (by omega)]
        simp [List.getD_eq_getElem?_getD, List.getElem?_set, Ne.symm e]
theorem R_splice {e base g n cap : Nat} {ok : Nat → Prop} (x : Int) : ∀ (q o : Nat) (xs : List Int) (w : World), (Kd.int .i64).R e w base ok (.slice (some ⟨g, 0, none⟩) n cap) xs → (Kd.int .i64).R e (w.setCells g o (List.replicate q (.int .i64 x))) base ok (.slice (some ⟨g, 0, none⟩) n cap) (splice x q o xs)
  | 0, _, _, _, h => h
  | q + 1, o, xs, w, h => by
    have h1 := (Kd.R_putg h (o : Int) x).1
    rw [Int.toNat_natCast] at h1
    exact R_splice x q (o + 1) _ _ h1
theorem below_cells {w : World} {g : Nat} : ∀ (vs : List Value) (o : Nat) (W : World), Below w.heap.size w W → w.heap.size ≤ g → Below w.heap.size w (W.setCells g o vs)
  | [], _, _, h, _ => h
  | v :: r, o, W, h, hg => below_cells r (o + 1) _ (below_set h hg) hg
/-- What the builtin copy does where all that it takes is one number. -/
theorem copy_x (W : World) (base gb o dl dc n cap : Nat) (ok : Nat → Prop) (xs : List Int) (ad : Addr) (sl sc q : Nat) (x : Int) (ty : TypeId) (hR : (Kd.int .i64).R 2 W base ok (.slice (some ⟨gb, 0, none⟩) n cap) xs) (hoq : o + q ≤ n) (hq : q = Nat.min sl dl) (hsrc : ∀ j : Nat, j < q → W.cell? (ad.add j) = some (.int .i64 x)) :
    (Builtin.copy_ #[25, 25] ty #[.slice (some ⟨gb, o, none⟩) dl dc, .slice (some ad) sl sc]).run Try.prog W = .ok (goInt q) (W.setCells gb o (List.replicate q (.int .i64 x))) := by
  have h := run_copy_cells (P := Try.prog) W 25 25 ty 2 gb o dl dc ad sl sc (List.replicate q (.int .i64 x)) Try.underlying25 (by kernel_rfl) (by rw [List.length_replicate]; exact hq) (fun j v hj => by
      rw [List.getElem?_replicate] at hj
      split at hj
      · rename_i hlt
        cases hj
        exact hsrc j hlt
      · cases hj) (fun j hj => by
      rw [List.length_replicate] at hj
      have := (Kd.R_celln 0 hR ((o + j : Nat) : Int) (by omega) (by omega)).1
      rw [Int.toNat_natCast] at this
      rw [this]; rfl) (fun j hj => by
      rw [List.length_replicate] at hj
      have := (Kd.R_celln 0 hR ((o + j : Nat) : Int) (by omega) (by omega)).2
      rw [Int.toNat_natCast] at this
      exact this) (fun v hv => by
      have := List.eq_of_mem_replicate hv
      subst this; rfl)
  rw [List.length_replicate] at h
  exact h
def slices_Repeat_int64_int64.f (l0 : List Int) (a1 : Int) : Option (List Int) := if l0.length = 1 ∧ 1 ≤ a1 ∧ a1 ≤ 1000 then some (List.replicate a1.toNat (rd l0 0)) else none
def slices_Repeat_int64_int64.T9 : Bool × List (List Nat × List Nat) := (true, [([], []), ([], []), ([], []), ([1, 2], [1, 2]), ([], []), ([], []), ([4, 5], [4, 5]), ([3, 6], [3, 6]), ([0, 7], [0, 7]), ([8, 7, 0, 1, 2, 3, 4, 5, 6, 7, 8], [0, 2, 5, 8])])
theorem slices_Repeat_int64_int64.tab9 : rtab .any (opsOf Try.f75 9) = slices_Repeat_int64_int64.T9 := by kernel_rfl
set_option maxHeartbeats 8000000 in
set_option maxRecDepth 1000000 in
theorem slices_Repeat_int64_int64.calls (A0 : Option Addr) (c0 : Nat) (l0 : List Int) (a1 : Int) (r : List Int) (w : World) (hr0 : Kd.C (Kd.int .i64) w A0 l0.length l0) (hc0 : l0.length ≤ c0) (h : slices_Repeat_int64_int64.f l0 a1 = some r) :
    Calls Try.prog 75 #[.slice A0 l0.length c0, .int .i64 a1] w fun e w' => ∃ v0_ : Value, e = .returned (v0_) ∧ Kd.R (Kd.int .i64) 2 w' w.heap.size (fun _ => True) v0_ r ∧ Below w.heap.size w w' := by
  unfold slices_Repeat_int64_int64.f at h
  by_cases hl : l0.length = 1 ∧ 1 ≤ a1 ∧ a1 ≤ 1000
  case neg => rw [if_neg hl] at h; exact absurd h (by simp)
  rw [if_pos hl] at h
  obtain rfl := Option.some.inj h
  clear h
  obtain ⟨hl, ha1, ha2⟩ := hl
  obtain ⟨x, rfl⟩ : ∃ x, l0 = [x] := List.length_eq_one_iff.1 hl
  obtain ⟨m, rfl⟩ : ∃ m : Nat, a1 = (m : Int) := ⟨a1.toNat, by omega⟩
  obtain ⟨ad, rfl, hx⟩ := Kd.at_int hr0 0 (by omega) (by simp)
  rw [Int.toNat_natCast, show rd [x] 0 = x from rfl]
  have hx : w.cell? (ad.add 0) = some (.int .i64 x) := hx
  have hw := u64w (m : Int) (by omega) (by omega)
  have hv : IntKind.i64.wrap (m : Int) = (m : Int) := by rw [i64_w]; unfold wrap64; omega
  have hm0 : ¬ (m : Int) < 0 := by omega
  have hm1 : ¬ (9223372036854775807 : Int) < (m : Int) := by omega
  have hm2 : 0 ≤ (m : Int) := by omega
  have HX := Aside0.mk hx
  have HB := Aside0.mk (Below.refl w.heap.size w)
  clear hx hr0 hl hc0
  go_enter Try.func75, Try.ntmps75
  go_wp2_with (first | (go_at_call 80; refine (mul_one_ (m : Int) (by omega) (by omega) _).mono ?_; rintro e w' ⟨rfl, q, rfl⟩) | ((with_reducible refine gate_dst (N := 30) rfl ?_); refine Kd.R_make (Kd.int .i64) _ 2 rfl (N := 30) rfl 25 _ _ rfl (m : Int) rfl rfl Try.underlying25 (.int .i64 0) 8 info2 rfl (by decide) (by omega) 0 (ok := fun _ => True) (okp := fun _ => True) rfl (fun _ hk => hk) trivial (by omega) (by omega) (Below.refl _ _) (Nat.le_refl _) ?_; intro v1 w3 ho4 hb hg_ hnew_; clear hg_ hnew_; rw [Int.toNat_natCast] at ho4; have n0_ := Aside0.mk (Kd.R_lower ho4 (below_size (pw_below_drewN HB.out _))); have n1_ := Aside0.mk (below_step (pw_below_drewN HB.out _) hb); clear HB; have HO := n0_; have HB := n1_; clear n0_ n1_ hb ho4; obtain ⟨gb, cap, eo, gbb, gl, cl⟩ := Kd.R_form HO.out (by simp; omega); subst eo; have n0_ := Aside0.mk (show (Kd.int .i64).R 2 w3 w.heap.size (fun _ => True) (.slice (some ⟨gb, 0, none⟩) m cap) (List.replicate m 0) from (by have q := HO.out; rw [List.length_replicate] at q; exact q)); clear HO; have HO := n0_; clear n0_; have GBB := Aside0.mk gbb; clear gbb gl cl) | ((with_reducible refine gate_builtin (b := .copy) (xs := #[.tmp 31, .tmp 32]) rfl ?_); go_loud (refine Lib.wpList_copy_run w3 rfl (.tmp 31) (.tmp 32) 25 25 rfl (.slice (some ⟨gb, 0, none⟩) m cap) (.slice (some ad) 1 c0) rfl rfl (copy_x w3 _ gb 0 m cap m cap _ _ ad 1 c0 1 x _ HO.out (by omega) (Nat.min_eq_left (show 1 ≤ m by omega)).symm (fun j hj => ?src)) ?_; (case src => (obtain rfl : j = 0 := by omega); exact (HB.out.cell (World.block_lt_of_cell? w _ HX.out)).trans HX.out); have n0_ := Aside0.mk (R_splice x 1 0 _ _ HO.out); have n1_ := Aside0.mk (below_cells (List.replicate 1 (.int .i64 x)) 0 _ HB.out GBB.out); clear HO HB; have HO := n0_; have HB := n1_; clear n0_ n1_)))
  go_loopg [8] m (fun gg s8 wr => ∃ (p : Nat) (xs : List Int), 1 ≤ p ∧ p ≤ m ∧ m - p ≤ gg ∧ s8 = .int .i64 p ∧ Aside0 (xs.length = m ∧ ∀ j, j < p → xs.getD j 0 = x) ∧ Aside0 ((Kd.int .i64).R 2 wr w.heap.size (fun _ => True) (.slice (some ⟨gb, 0, none⟩) m cap) xs) ∧ Aside0 (Below w.heap.size w wr))
  case atStart =>
    refine ⟨1, splice x 1 0 (List.replicate m 0), by omega, by omega, by omega, rfl, ⟨by rw [splice_length, List.length_replicate], fun j hj => ?_⟩, HO, HB⟩
    rw [splice_at x 1 0 _ j (by rw [List.length_replicate]; omega), if_pos (by omega)]
  case round =>
    clear HO HB
    obtain ⟨p, xs, hp1, hpm, hgp, rfl, HL, HO, HB⟩ := hrel
    by_cases hlt : p < m
    · have hltz : (p : Int) < (m : Int) := by omega
      have hcap := (Kd.R_reads' HO.out).2.1
      have hcap0 : (p : Int) ≤ (cap : Int) := by omega
      have hpz : (0 : Int) ≤ (p : Int) := by omega
      have hpt : (p : Int).toNat = p := Int.toNat_natCast p
      have hle : (p : Int) ≤ (m : Int) := by omega
      go_wp2
      refine start_ (n := 10) (S := fun _ => True) (ds := []) #[false, false, false, false, false, false, false, false, false, false] (by kernel_rfl) rfl rfl trivial (fun hHeld => ?_); refine with_tab slices_Repeat_int64_int64.tab9 (fun HT_ => ?_)
      refine pure_ (i := 0) (N := some 38) (v := ?_) (a' := ?_) #[true, false, false, false, false, false, false, false, false, false] rfl rfl (any_of HT_.out (by kernel_rfl)) (fun _ _ _ h => h) (Or.inl ⟨by rfl, ?_⟩) ?_ ?_
      rotate_left
      · intro w'
        go_simp
        with_reducible rfl
      rotate_left
      · simp only [Act.put, List.setIfInBounds_toArray, List.set_cons_zero, List.set_cons_succ, i64_w, i32_w]
        rfl
      refine pure_ (i := 1) (N := some 39) (v := ?_) (a' := ?_) #[true, true, false, false, false, false, false, false, false, false] rfl rfl (any_of HT_.out (by kernel_rfl)) (fun _ _ _ h => h) (Or.inl ⟨by rfl, ?_⟩) ?_ ?_
      rotate_left
      · intro w'
        go_simp
        with_reducible rfl
      rotate_left
      · simp only [Act.put, List.setIfInBounds_toArray, List.set_cons_zero, List.set_cons_succ, i64_w, i32_w]
        rfl
      refine pure_ (i := 2) (N := some 40) (v := ?_) (a' := ?_) #[true, true, true, false, false, false, false, false, false, false] rfl rfl (any_of HT_.out (by kernel_rfl)) (fun _ _ _ h => h) (Or.inl ⟨by rfl, ?_⟩) ?_ ?_
      rotate_left
      · intro w'
        go_simp
        with_reducible rfl
      rotate_left
      · simp only [Act.put, List.setIfInBounds_toArray, List.set_cons_zero, List.set_cons_succ, i64_w, i32_w]
        rfl
      refine pure_ (i := 4) (N := some 42) (v := ?_) (a' := ?_) #[true, true, true, false, true, false, false, false, false, false] rfl rfl (any_of HT_.out (by kernel_rfl)) (fun _ _ _ h => h) (Or.inl ⟨by rfl, ?_⟩) ?_ ?_
      rotate_left
      · intro w'
        go_simp
        with_reducible rfl
      rotate_left
      · simp only [Act.put, List.setIfInBounds_toArray, List.set_cons_zero, List.set_cons_succ, i64_w, i32_w]
        rfl
      refine pure_ (i := 5) (N := some 43) (v := ?_) (a' := ?_) #[true, true, true, false, true, true, false, false, false, false] rfl rfl (any_of HT_.out (by kernel_rfl)) (fun _ _ _ h => h) (Or.inl ⟨by rfl, ?_⟩) ?_ ?_
      rotate_left
      · intro w'
        go_simp
        with_reducible rfl
      rotate_left
      · simp only [Act.put, List.setIfInBounds_toArray, List.set_cons_zero, List.set_cons_succ, i64_w, i32_w]
        rfl
      refine pure_ (i := 3) (N := some 41) (v := ?_) (a' := ?_) #[true, true, true, true, true, true, false, false, false, false] rfl rfl (any_of HT_.out (by kernel_rfl)) (fun _ _ _ h => h) (Or.inl ⟨by rfl, ?_⟩) ?_ ?_
      rotate_left
      · intro w'
        go_simp
        with_reducible rfl
      rotate_left
      · simp only [Act.put, List.setIfInBounds_toArray, List.set_cons_zero, List.set_cons_succ, i64_w, i32_w]
        rfl
      refine pure_ (i := 6) (N := some 44) (v := ?_) (a' := ?_) #[true, true, true, true, true, true, true, false, false, false] rfl rfl (any_of HT_.out (by kernel_rfl)) (fun _ _ _ h => h) (Or.inl ⟨by rfl, ?_⟩) ?_ ?_
      rotate_left
      · intro w'
        go_simp
        with_reducible rfl
      rotate_left
      · simp only [Act.put, List.setIfInBounds_toArray, List.set_cons_zero, List.set_cons_succ, i64_w, i32_w]
        rfl
      refine one_ (i := 7) (N := some 45) #[true, true, true, true, true, true, true, true, false, false] rfl rfl (one_of HT_.out (by kernel_rfl)) (by decide) (fun K hK => ?_)
      rw [if_pos (by rfl)]
      obtain ⟨q, hq⟩ : ∃ q : Nat, q = Nat.min p (m - p) := ⟨_, rfl⟩
      have hq1 : q ≤ p := by rw [hq]; exact Nat.min_le_left _ _
      have hq2 : p + q ≤ m := by have : q ≤ m - p := by rw [hq]; exact Nat.min_le_right _ _
                                 omega
      have hq3 : 1 ≤ q := by rw [hq]; exact Nat.le_min.2 ⟨by omega, by omega⟩
      have hcp := copy_x wr.drew _ gb p (m - p) (cap - p) m cap _ xs ⟨gb, 0, none⟩ p cap q x 3 (Kd.R_drew HO.out) hq2 hq (fun j hj => by
        have := (Kd.R_celln 0 HO.out (j : Int) (by omega) (by omega)).1
        rw [Int.toNat_natCast] at this
        rw [add_plain]
        show wr.cell? _ = _
        rw [this]
        unfold rdOf
        rw [Int.toNat_natCast, HL.out.2 j (by omega)])
      clear hq
      refine Lib.wp_copy_run wr.drew (.tmp 41) (.tmp 44) 25 25 rfl (.slice (some ⟨gb, p, none⟩) (m - p) (cap - p)) (.slice (some ⟨gb, 0, none⟩) p cap) ?ed ?es hcp ?_
      case ed => show Value.slice (if cap = p then some ⟨gb, 0, none⟩ else some ⟨gb, p, none⟩) (m - p) (cap - p) = _; rw [if_neg (by omega)]
      case es => rfl
      refine hK.out _ _ trivial (fun hHeld => ?_)
      clear hK K
      refine norm_ (a' := ?_) ?_ ?_
      rotate_left
      · show Act.put _ (some 45) _ = _
        simp only [Act.put, List.setIfInBounds_toArray, List.set_cons_zero, List.set_cons_succ, i64_w, i32_w]
        rfl
      have hqi : goInt q = .int .i64 (q : Int) := rfl
      refine pure_ (i := 8) (N := some 46) (v := ?_) (a' := ?_) #[true, true, true, true, true, true, true, true, true, false] rfl rfl (any_of HT_.out (by kernel_rfl)) (fun _ _ _ h => h) (Or.inl ⟨by rfl, ?_⟩) ?_ ?_
      rotate_left
      · intro w'
        go_simp
        with_reducible rfl
      rotate_left
      · simp only [Act.put, List.setIfInBounds_toArray, List.set_cons_zero, List.set_cons_succ, i64_w, i32_w]
        rfl
      refine pure_ (i := 9) (N := some 8) (v := ?_) (a' := ?_) #[true, true, true, true, true, true, true, true, true, true] rfl rfl (any_of HT_.out (by kernel_rfl)) (fun _ _ _ h => h) (Or.inl ⟨by rfl, ?_⟩) ?_ ?_
      rotate_left
      · intro w'
        go_simp
        with_reducible rfl
      rotate_left
      · simp only [Act.put, List.setIfInBounds_toArray, List.set_cons_zero, List.set_cons_succ, i64_w, i32_w]
        rfl
      refine done_ (done_of HT_.out (by kernel_rfl)) ?_
      have hs : wrap64 ((p : Int) + (q : Int)) = ((p + q : Nat) : Int) := by unfold wrap64; omega
      have HO2 := Aside0.mk (R_splice x q p xs wr.drew (Kd.R_drew HO.out))
      have HB2 := Aside0.mk (below_cells (List.replicate q (.int .i64 x)) p _ (below_drew1 HB.out) GBB.out)
      generalize wr.drew.setCells gb p (List.replicate q (.int .i64 x)) = wn at HO2 HB2 ⊢
      (try go_wp2)
      go_roundg (m - (p + q))
      case measure => omega
      case rel =>
        refine ⟨p + q, splice x q p xs, by omega, by omega, by omega, by first | rw [hs] | rw [Int.natCast_add], ⟨by rw [splice_length, HL.out.1], fun j hj => ?_⟩, HO2, HB2⟩
        rw [splice_at x q p xs j (by rw [HL.out.1]; omega)]
        by_cases c : p ≤ j ∧ j < p + q
        · rw [if_pos c]
        · rw [if_neg c]; exact HL.out.2 j (by omega)
    · have hltz : ¬ (p : Int) < (m : Int) := by omega
      go_wp2
      go_ret
      refine ⟨_, rfl, ?_, HB.out⟩
      have e : xs = List.replicate m x := by
        apply List.ext_getElem
        · rw [HL.out.1, List.length_replicate]
        · intro j h1 h2
          have := HL.out.2 j (by rw [List.length_replicate] at h2; omega)
          rw [List.getD_eq_getElem?_getD, List.getElem?_eq_getElem h1] at this
          rw [List.getElem_replicate]; exact this
      rw [← e]; exact HO.out


end Go.Proofs.Ytfpddpkloplpeaa.QFnPasting
