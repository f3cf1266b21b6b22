/- At all drawn gaps and greatest shifts, the best shifts lead to the told greatest gap, no drawn shifts lead to a lesser one, and shifts do not change the closing error. No condition. -/
import Derived.Test.YtcgcmnebenllcaaQFnSeamsx6
import Derived.Test.YtcgcmnebenllcaaBase
import Derived.Test.YtcgcmnebenllcaaFW
namespace Go.Proofs.Ytcgcmnebenllcaa.Pure
open Go Go.RowKit Go.Proofs.Ytcgcmnebenllcaa.QFnSeams Go.Proofs.YtcgcmnebenllcaaW.PrintWords Go.Proofs.YtcgcmnebenllcaaW.PrintLast Go.Proofs.YtcgcmnebenllcaaW.PrintMore Go.Proofs.Ytcgcmnebenllcaa.Base
set_option linter.unusedVariables false
set_option linter.unusedSimpArgs false

/-- From some number of rounds on the answer is r. -/
def Ev {α : Type} (g : Nat → Option α) (r : α) : Prop := ∃ K, ∀ k, K ≤ k → g k = some r
theorem Ev.step {α : Type} {g h : Nat → Option α} {r : α} (e : ∀ k, g (k + 1) = h k) (hr : Ev h r) : Ev g r := by
  obtain ⟨K, hK⟩ := hr
  refine ⟨K + 1, fun k hk => ?_⟩
  obtain ⟨k, rfl⟩ : ∃ m, k = m + 1 := ⟨k - 1, by omega⟩
  rw [e]; exact hK k (by omega)
theorem Ev.now {α : Type} {g : Nat → Option α} {r : α} (e : ∀ k, g (k + 1) = some r) : Ev g r := Ev.step (h := fun _ => some r) e ⟨0, fun _ _ => rfl⟩
theorem Ev.bind {α β : Type} {c : Nat → Option α} {f : Nat → α → Option β} {t : α} {r : β} (hc : Ev c t) (hf : Ev (fun k => f k t) r) : Ev (fun k => (c k).bind (f k)) r := by
  obtain ⟨K, hK⟩ := hc
  obtain ⟨L, hL⟩ := hf
  exact ⟨K + L, fun k hk => by show (c k).bind (f k) = some r; rw [hK k (by omega)]; exact hL k (by omega)⟩
theorem Ev.eq {α : Type} {g h : Nat → Option α} {r : α} (e : ∀ k, g k = h k) (hr : Ev h r) : Ev g r := by
  obtain ⟨K, hK⟩ := hr
  exact ⟨K, fun k hk => by rw [e]; exact hK k hk⟩

theorem possible_l (C : List (List Int)) (N : Nat) (hs : Go.Proofs.Ytcgcmnebenllcaa.FW.Sq C N) (hN : N ≤ 100) : ∀ (d i : Nat), N - i = d → i ≤ N → ∀ b : Bool, (b = true ↔ ∀ j : Nat, i ≤ j → j < N → 0 ≤ Go.Proofs.Ytcgcmnebenllcaa.FW.g2 C j j) → Ev (fun k => impl_bounds_possible.l0 k C (N : Int) (i : Int)) b := by
  intro d
  induction d with
  | zero =>
    intro i hd hi b hb
    have : b = true := hb.2 (fun j h1 h2 => by omega)
    subst this
    refine Ev.now (fun k => ?_)
    simp only [impl_bounds_possible.l0]
    rw [if_neg (by omega)]
  | succ d ih =>
    intro i hd hi b hb
    have hrd : rd_L2 C (i : Int) = C.getD i [] := by unfold rd_L2; rw [Int.toNat_natCast]
    have hg : rd (rd_L2 C (i : Int)) (i : Int) = Go.Proofs.Ytcgcmnebenllcaa.FW.g2 C i i := by rw [hrd]; unfold rd Go.Proofs.Ytcgcmnebenllcaa.FW.g2; rw [Int.toNat_natCast]
    have e : ∀ k, impl_bounds_possible.l0 (k + 1) C (N : Int) (i : Int) = if Go.Proofs.Ytcgcmnebenllcaa.FW.g2 C i i < 0 then some false else impl_bounds_possible.l0 k C (N : Int) ((i + 1 : Nat) : Int) := by
      intro k
      simp only [impl_bounds_possible.l0]
      rw [if_pos (by omega), if_pos (by omega), if_pos (by have := hs.1; omega), if_pos (by rw [hrd, hs.2 i (by omega)]; omega), hg, w64 (n := (i : Int) + 1) (by omega) (by omega)]
      rfl
    by_cases c : Go.Proofs.Ytcgcmnebenllcaa.FW.g2 C i i < 0
    · have : b = false := by
        cases b with
        | false => rfl
        | true => have := hb.1 rfl i (Nat.le_refl _) (by omega); omega
      subst this
      exact Ev.now (fun k => by rw [e, if_pos c])
    · refine Ev.step (h := fun k => impl_bounds_possible.l0 k C (N : Int) ((i + 1 : Nat) : Int)) (fun k => by rw [e, if_neg c]) (ih (i + 1) (by omega) (by omega) b ?_)
      rw [hb]
      constructor
      · intro h j h1 h2; exact h j (by omega) h2
      · intro h j h1 h2
        by_cases e2 : j = i
        · subst e2; omega
        · exact h j (by omega) h2
theorem Possible_ (C : List (List Int)) (N : Nat) (hs : Go.Proofs.Ytcgcmnebenllcaa.FW.Sq C N) (hN : N ≤ 100) (b : Bool) (hb : b = true ↔ ∀ j : Nat, j < N → 0 ≤ Go.Proofs.Ytcgcmnebenllcaa.FW.g2 C j j) : Ev (fun k => impl_bounds_possible.f k C) b := by
  refine Ev.eq (h := fun k => impl_bounds_possible.l0 k C (N : Int) ((0 : Nat) : Int)) (fun k => ?_) (possible_l C N hs hN N 0 (by omega) (by omega) b (by rw [hb]; exact ⟨fun h j _ h2 => h j h2, fun h j h2 => h j (by omega) h2⟩))
  unfold impl_bounds_possible.f
  rw [hs.1]; rfl

def okS (l : List Int) : Bool := decide (2 ≤ (l.length : Int) ∧ (l.length : Int) ≤ 24) && l.all fun x => decide (-1000 ≤ x ∧ x ≤ 1000)
theorem okS_says {l : List Int} (h : okS l = true) : 2 ≤ l.length ∧ l.length ≤ 24 ∧ (∀ x ∈ l, -1000 ≤ x ∧ x ≤ 1000) ∧ ∀ i : Int, 0 ≤ i → i < l.length → -1000 ≤ rd l i ∧ rd l i ≤ 1000 := by
  unfold okS at h
  simp only [Bool.and_eq_true, decide_eq_true_eq, List.all_eq_true] at h
  exact ⟨by omega, by omega, h.2, fun i h0 h1 => h.2 _ (rd_in l i h0 h1)⟩

theorem least_N (P : Nat → Prop) (n : Nat) (h : P n) : ∃ m, m ≤ n ∧ P m ∧ ∀ j, j < m → ¬ P j := by
  induction n using Nat.strongRecOn with
  | _ n ih =>
    by_cases c : ∃ j, j < n ∧ P j
    · obtain ⟨j, hj, hp⟩ := c
      obtain ⟨m, h1, h2, h3⟩ := ih j hj hp
      exact ⟨m, by omega, h2, h3⟩
    · exact ⟨n, Nat.le_refl _, h, fun j hj hp => c ⟨j, hj, hp⟩⟩

open Go.Proofs.Ytcgcmnebenllcaa.FW
/-- Gaps within w are there. -/
def fea (l : List Int) (m w : Int) : Prop := ∃ s, Cyc l.length (nx l.length) (fun k => rd l (k : Int)) w m s
theorem seams_ {l : List Int} {m : Int} (h : okS l = true) (m0 : 0 ≤ m) (m1 : m ≤ 50) : Seams l.length (nx l.length) (fun k => rd l (k : Int)) m := by
  obtain ⟨h1, h2, h3, h4⟩ := okS_says h
  exact ⟨h1, h2, m0, m1, fun k hk => h4 k (by omega) (by omega), nx_ok _ h1⟩
theorem fea_mono {l : List Int} {m w w' : Int} (h : fea l m w) (hw : w ≤ w') : fea l m w' := by
  obtain ⟨s, hs⟩ := h
  exact ⟨s, fun k hk => by have := hs k hk; omega⟩
theorem fea_zero {l : List Int} {m w : Int} (m0 : 0 ≤ m) (h : ∀ k : Nat, k < l.length → -w ≤ rd l (k : Int) ∧ rd l (k : Int) ≤ w) : fea l m w := by
  refine ⟨fun _ => 0, fun k hk => ?_⟩
  have := h k hk
  simp only []
  omega
/-- The least greatest gap. -/
def IsLW (l : List Int) (m : Int) (W : Int) : Prop := 0 ≤ W ∧ W ≤ 1000 ∧ fea l m W ∧ ∀ w, 0 ≤ w → w < W → ¬ fea l m w
theorem lw_ {l : List Int} {m : Int} (h : okS l = true) (m0 : 0 ≤ m) : ∃ W, IsLW l m W := by
  obtain ⟨h1, h2, h3, h4⟩ := okS_says h
  obtain ⟨W, q1, q2, q3⟩ := least_N (fun w => fea l m (w : Int)) 1000 (fea_zero m0 (fun k hk => h4 k (by omega) (by omega)))
  refine ⟨(W : Int), by omega, by omega, q2, fun w w0 w1 hw => ?_⟩
  obtain ⟨w, rfl⟩ : ∃ v : Nat, w = (v : Int) := ⟨w.toNat, by omega⟩
  exact q3 w (by omega) hw

theorem implLeast_l (l : List Int) (m : Int) (h : okS l = true) (m0 : 0 ≤ m) (m1 : m ≤ 50) (W : Int) (hW : IsLW l m W) : ∀ (d : Nat) (a b : Int), b - a ≤ d → 0 ≤ a → a ≤ W → W ≤ b → b ≤ 1000 → Ev (fun k => impl_leastWorst.l0 k l m a b) W := by
  obtain ⟨h1, h2, h3, h4⟩ := okS_says h
  have hS := seams_ h m0 m1
  intro d
  induction d with
  | zero =>
    intro a b hd ha haW hWb hb
    refine Ev.now (fun k => ?_)
    simp only [impl_leastWorst.l0]
    rw [if_neg (by omega), show a = W by omega]
  | succ d ih =>
    intro a b hd ha haW hWb hb
    by_cases c : a < b
    · have hmid : Int.tdiv (a + b) 2 = (a + b) / 2 := Int.tdiv_eq_ediv_of_nonneg (by omega)
      obtain ⟨c1, c2, c3⟩ := cb_ hS ((a + b) / 2) (by omega) (by omega)
      obtain ⟨q, hq⟩ : ∃ q : Bool, q = true ↔ fea l m ((a + b) / 2) := by
        by_cases e : fea l m ((a + b) / 2)
        · exact ⟨true, by simp [e]⟩
        · exact ⟨false, by simp [e]⟩
      have hp := Possible_ _ _ c1 (by omega) q (hq.trans c2)
      have e : ∀ k, impl_leastWorst.l0 (k + 1) l m a b = (impl_bounds_possible.f k (cb l.length (nx l.length) (fun k => rd l (k : Int)) ((a + b) / 2) m)).bind fun t => if t = true then impl_leastWorst.l0 k l m a ((a + b) / 2) else impl_leastWorst.l0 k l m ((a + b) / 2 + 1) b := by
        intro k
        simp only [impl_leastWorst.l0]
        rw [if_pos c, w64 (n := a + b) (by omega) (by omega), hmid, w64 (n := (a + b) / 2) (by omega) (by omega), w64 (n := (a + b) / 2 + 1) (by omega) (by omega)]
        rw [show impl_boundsFor.f l m ((a + b) / 2) = some (cb l.length (nx l.length) (fun k => rd l (k : Int)) ((a + b) / 2) m) from by unfold impl_boundsFor.f; rw [if_pos ⟨h1, h2⟩]]
        rfl
      refine Ev.step e (Ev.bind hp ?_)
      by_cases f : fea l m ((a + b) / 2)
      · have : q = true := hq.2 f
        subst this
        refine Ev.eq (fun k => by rw [if_pos rfl]) (ih a ((a + b) / 2) (by omega) ha haW ?_ (by omega))
        by_cases g : W ≤ (a + b) / 2
        · exact g
        · exact absurd f (hW.2.2.2 _ (by omega) (by omega))
      · have : q = false := by
          cases q with
          | false => rfl
          | true => exact absurd (hq.1 rfl) f
        subst this
        refine Ev.eq (fun k => by rw [if_neg (by simp)]) (ih ((a + b) / 2 + 1) b (by omega) (by omega) ?_ hWb hb)
        by_cases g : W ≤ (a + b) / 2
        · exact absurd (fea_mono hW.2.2.1 g) f
        · omega
    · refine Ev.now (fun k => ?_)
      simp only [impl_leastWorst.l0]
      rw [if_neg c, show a = W by omega]
theorem ImplLeast_ (l : List Int) (m : Int) (h : okS l = true) (m0 : 0 ≤ m) (m1 : m ≤ 50) (W : Int) (hW : IsLW l m W) : Ev (fun k => impl_leastWorst.f k l m) W :=
  implLeast_l l m h m0 m1 W hW 1000 0 1000 (by omega) (by omega) hW.1 hW.2.1 (by omega)

theorem ImplOkS_ (l : List Int) : impl_ValidSeams.f l = some (okS l) := by
  unfold impl_ValidSeams.f impl_allWithin.f okS
  by_cases h1 : (l.length : Int) ≥ 2
  · by_cases h2 : (l.length : Int) ≤ 24
    · have e : decide (2 ≤ (l.length : Int) ∧ (l.length : Int) ≤ 24) = true := decide_eq_true ⟨h1, h2⟩
      rw [if_pos h1, if_pos h2, e]; simp
    · have e : decide (2 ≤ (l.length : Int) ∧ (l.length : Int) ≤ 24) = false := decide_eq_false (fun x => h2 x.2)
      rw [if_pos h1, if_neg h2, e]; simp
  · have e : decide (2 ≤ (l.length : Int) ∧ (l.length : Int) ≤ 24) = false := decide_eq_false (fun x => h1 x.1)
    rw [if_neg h1, e]; simp

theorem within_ (a b c : Int) : impl_within.f a b c = some (decide (b ≤ a ∧ a ≤ c)) := by
  unfold impl_within.f
  by_cases h : a ≥ b
  · rw [if_pos h]; simp [show b ≤ a from h]
  · rw [if_neg h]; simp [show ¬ b ≤ a from h]

theorem check_ (a b : Bool) : impl_check.f a b = some (if a = true then (if b = true then 0 else 2) else 1) := by
  unfold impl_check.f; cases a <;> cases b <;> rfl

theorem ImplLW_ (l : List Int) (m : Int) (h : okS l = true) (m0 : 0 ≤ m) (m1 : m ≤ 50) (W : Int) (hW : IsLW l m W) : Ev (fun k => impl_LeastWorst.f k l m) (W, 0) := by
  obtain ⟨K, hK⟩ := ImplLeast_ l m h m0 m1 W hW
  refine ⟨K, fun k hk => ?_⟩
  simp only [impl_LeastWorst.f]
  rw [ImplOkS_, h, within_]; simp only [Option.bind_some]
  rw [check_]; simp only [Option.bind_some, if_true, decide_eq_true_eq]
  rw [if_pos (show 0 ≤ m ∧ m ≤ 50 from ⟨m0, m1⟩)]; simp only [if_true]
  rw [show impl_leastWorst.f k l m = some W from hK k hk]; rfl

/-- The least point of the gaps within w, told as a list. -/
def pts (n : Nat) (p : Nat → Int) (j : Nat) : List Int := (List.range j).map p
theorem pts_succ (n : Nat) (p : Nat → Int) (j : Nat) : pts n p (j + 1) = pts n p j ++ [p j] := by
  unfold pts; rw [List.range_succ, List.map_append]; rfl
theorem pts_len (n : Nat) (p : Nat → Int) (j : Nat) : (pts n p j).length = j := by simp [pts]
theorem pts_rd (n : Nat) (p : Nat → Int) (j : Nat) (i : Int) (h0 : 0 ≤ i) (h : i < j) : rd (pts n p j) i = p i.toNat := rd_map _ _ _ h0 h
/-- p is the least one of the numbers that leave gaps within w. -/
structure IsPt (l : List Int) (m w : Int) (p : Nat → Int) : Prop where
  cyc : Cyc l.length (nx l.length) (fun k => rd l (k : Int)) w m p
  least : ∀ s, Cyc l.length (nx l.length) (fun k => rd l (k : Int)) w m s → ∀ k, k < l.length → p k ≤ s k

theorem outs_pts (l : List Int) (C : List (List Int)) (p : Nat → Int) : ∀ d, (∀ k, k < d → wrap64 (-(g2 (bst C l.length k) k l.length)) = p k) → outs C l.length d = pts l.length p d
  | 0, _ => rfl
  | d + 1, h => by rw [outs_succ, pts_succ, outs_pts l C p d (fun k hk => h k (by omega)), h d (by omega)]
theorem pt_ {l : List Int} {m w : Int} (h : okS l = true) (m0 : 0 ≤ m) (m1 : m ≤ 50) (w0 : 0 ≤ w) (w1 : w ≤ 1000) (hf : fea l m w) : ∃ p, IsPt l m w p ∧ outs (cb l.length (nx l.length) (fun k => rd l (k : Int)) w m) l.length l.length = pts l.length p l.length := by
  obtain ⟨c1, c2, c3⟩ := cb_ (seams_ h m0 m1) w w0 w1
  obtain ⟨d1, d2, d3⟩ := c3 hf
  exact ⟨lo (cb l.length (nx l.length) (fun k => rd l (k : Int)) w m) l.length, ⟨d1, d2⟩, outs_pts l _ _ _ (fun k hk => (d3 k (by omega)).2 hk)⟩
theorem ImplBS_ (l : List Int) (m : Int) (h : okS l = true) (m0 : 0 ≤ m) (m1 : m ≤ 50) (W : Int) (hW : IsLW l m W) : ∃ p, IsPt l m W p ∧ Ev (fun k => impl_BestShifts.f k l m) (pts l.length p l.length, 0) := by
  obtain ⟨p, hp, ho⟩ := pt_ h m0 m1 hW.1 hW.2.1 hW.2.2.1
  obtain ⟨h1, h2, h3, h4⟩ := okS_says h
  obtain ⟨K, hK⟩ := ImplLeast_ l m h m0 m1 W hW
  refine ⟨p, hp, K, fun k hk => ?_⟩
  simp only [impl_BestShifts.f]
  rw [ImplOkS_, h, within_]; simp only [Option.bind_some]
  rw [check_]; simp only [Option.bind_some, if_true, decide_eq_true_eq]
  rw [if_pos (show 0 ≤ m ∧ m ≤ 50 from ⟨m0, m1⟩)]; simp only [if_true]
  rw [show impl_leastWorst.f k l m = some W from hK k hk]; simp only [Option.bind_some]
  rw [show impl_boundsFor.f l m W = some (cb l.length (nx l.length) (fun k => rd l (k : Int)) W m) from by unfold impl_boundsFor.f; rw [if_pos ⟨h1, h2⟩]]; simp only [Option.bind_some]
  rw [ho]

/-- The greatest size of a number of a list. -/
def wor (l : List Int) (a : Int) : Int := l.foldl (fun s x => mx s (ab x)) a
theorem wor_says : ∀ (l : List Int) (a : Int), a ≤ wor l a ∧ (∀ x ∈ l, ab x ≤ wor l a) ∧ (wor l a = a ∨ ∃ x ∈ l, wor l a = ab x)
  | [], a => ⟨Int.le_refl _, fun x h => by simp at h, .inl rfl⟩
  | x :: l, a => by
    have h := wor_says l (mx a (ab x))
    have e : wor (x :: l) a = wor l (mx a (ab x)) := rfl
    have hm : (mx a (ab x) = a ∧ ab x ≤ a) ∨ (mx a (ab x) = ab x ∧ a ≤ ab x) := by unfold mx; split <;> omega
    rw [e]
    refine ⟨by omega, fun y hy => ?_, ?_⟩
    · rcases List.mem_cons.1 hy with rfl | hy
      · omega
      · exact h.2.1 y hy
    · rcases h.2.2 with h2 | ⟨y, hy, h2⟩
      · rcases hm with hm | hm
        · left; omega
        · right; exact ⟨x, by simp, by omega⟩
      · right; exact ⟨y, by simp [hy], h2⟩

theorem wor_fea {l : List Int} {m : Int} (hl : okS l = true) (m0 : 0 ≤ m) : 0 ≤ wor l 0 ∧ wor l 0 ≤ 1000 ∧ fea l m (wor l 0) := by
  obtain ⟨l1, l2, l3, l4⟩ := okS_says hl
  obtain ⟨w1, w2, w3⟩ := wor_says l 0
  refine ⟨w1, ?_, fea_zero m0 (fun k hk => ?_)⟩
  · rcases w3 with w3 | ⟨x, hx, w3⟩
    · omega
    · have := l3 x hx; rw [w3]; unfold ab; split <;> omega
  · have := w2 _ (rd_in l (k : Int) (by omega) (by omega))
    unfold ab at this; split at this <;> omega

theorem rd_mem (l : List Int) (i : Int) (h0 : 0 ≤ i) (h : i < l.length) : rd l i ∈ l := by
  unfold rd
  rw [List.getD_eq_getElem?_getD, List.getElem?_eq_getElem (by omega)]
  exact List.getElem_mem _
theorem u64_range (n : Int) : 0 ≤ IntKind.u64.wrap n ∧ IntKind.u64.wrap n < 18446744073709551616 := by
  have e : IntKind.u64.wrap n = n % 18446744073709551616 := by simp [IntKind.wrap, IntKind.bits, IntKind.signed]
  rw [e]; omega
theorem low_byte (n : Int) : 0 ≤ Go.bits .and .u64 (IntKind.u64.wrap n / 1099511627776) 255 ∧ Go.bits .and .u64 (IntKind.u64.wrap n / 1099511627776) 255 ≤ 255 := by
  have h := u64_range n
  have e : Go.bits .and .u64 (IntKind.u64.wrap n / 1099511627776) 255 = (IntKind.u64.wrap n / 1099511627776) % 256 :=
    Go.bits_mask .u64 64 (by decide) (fun m g0 g1 => by
      have e : IntKind.u64.wrap m = m % 18446744073709551616 := by simp [IntKind.wrap, IntKind.bits, IntKind.signed]
      have : (2 : Int) ^ 64 = 18446744073709551616 := by decide
      rw [e]; omega) 8 (by decide) _ (by omega) (by have : (2 : Int) ^ 64 = 18446744073709551616 := by decide
                                                    omega)
  rw [e]; omega
theorem low_byte_w (n : Int) : 0 ≤ wrap64 (Go.bits .and .u64 (IntKind.u64.wrap n / 1099511627776) 255) ∧ wrap64 (Go.bits .and .u64 (IntKind.u64.wrap n / 1099511627776) 255) ≤ 255 := by
  have h := low_byte n
  rw [w64 (by omega) (by omega)]; exact h
theorem Next_ (l : List Int) (hl : ∀ x ∈ l, 0 ≤ x ∧ x ≤ 255) (a s : Int) (h0 : 0 ≤ a) (h1 : a ≤ 1152921504606846976) : ∃ v s', spec_l00Src_next.f l a s = some (v, a + 1, s') ∧ 0 ≤ v ∧ v ≤ 255 := by
  unfold spec_l00Src_next.f
  have hw : wrap64 (a + 1) = a + 1 := w64 (by omega) (by omega)
  by_cases c : a < (l.length : Int)
  · have hb := hl _ (rd_mem l a h0 c)
    rw [if_pos c, if_pos h0, hw, if_pos (by omega)]
    exact ⟨_, _, rfl, by rw [w64 (by omega) (by omega)]; omega, by rw [w64 (by omega) (by omega)]; omega⟩
  · rw [if_neg c, hw, if_neg (by omega)]
    exact ⟨_, _, rfl, (low_byte_w _).1, (low_byte_w _).2⟩

theorem Pick_ (l : List Int) (hl : ∀ x ∈ l, 0 ≤ x ∧ x ≤ 255) (a s n : Int) (h0 : 0 ≤ a) (h1 : a ≤ 1000000000000) : ∃ v a' s', spec_l00Src_pick.f l a s n = some (v, a', s') ∧ a ≤ a' ∧ a' ≤ a + 2 ∧ 0 ≤ v ∧ v ≤ 65535 ∧ (1 ≤ n → v < n) ∧ (n ≤ 1 → v = 0) := by
  unfold spec_l00Src_pick.f
  by_cases c : n ≤ 1
  · rw [if_pos c]; exact ⟨0, a, s, rfl, by omega, by omega, by omega, by omega, by omega, by omega⟩
  · obtain ⟨v, s', hv, v0, v1⟩ := Next_ l hl a s h0 (by omega)
    rw [if_neg c, hv]; simp only [Option.bind_some]
    by_cases d : n > 200
    · obtain ⟨u, s2, hu, u0, u1⟩ := Next_ l hl (a + 1) s' (by omega) (by omega)
      rw [if_pos d, hu]; simp only [Option.bind_some]
      rw [if_neg (by omega), w64 (n := v * 256) (by omega) (by omega), w64 (n := v * 256 + u) (by omega) (by omega), tmod_eq _ _ (by omega), if_pos (by omega)]
      have g0 := Int.emod_nonneg (v * 256 + u) (b := n) (by omega)
      have g1 := Int.emod_lt_of_pos (v * 256 + u) (b := n) (by omega)
      have g2 := Int.mul_ediv_add_emod (v * 256 + u) n
      have g3 := Int.mul_nonneg (show 0 ≤ n by omega) (Int.ediv_nonneg (show 0 ≤ v * 256 + u by omega) (show 0 ≤ n by omega))
      exact ⟨_, _, _, rfl, by omega, by omega, g0, by omega, fun _ => g1, fun _ => by omega⟩
    · rw [if_neg d, if_neg (by omega), tmod_eq _ _ (by omega), if_pos (by omega)]
      have g0 := Int.emod_nonneg v (b := n) (by omega)
      have g1 := Int.emod_lt_of_pos v (b := n) (by omega)
      exact ⟨_, _, _, rfl, by omega, by omega, g0, by omega, fun _ => g1, fun _ => by omega⟩

theorem A2Gaps_l (l0 : List Int) (hl : ∀ x ∈ l0, 0 ≤ x ∧ x ≤ 255) : ∀ (d k : Nat) (a : List Int) (at_ sd : Int), d ≤ 100 → 0 ≤ at_ → at_ + 2 * d ≤ 1000 → a.length + d ≤ 1000 → (∀ x ∈ a, -12 ≤ x ∧ x ≤ 12) → d < k → ∃ g, spec_A2Gaps.l0 k a d l0 at_ sd = some g ∧ g.length = a.length + d ∧ ∀ x ∈ g, -12 ≤ x ∧ x ≤ 12
  | 0, k, a, at_, sd, _, h0, h1, ha, hx, hk => by
    obtain ⟨k, rfl⟩ : ∃ m, k = m + 1 := ⟨k - 1, by omega⟩
    simp only [spec_A2Gaps.l0]; rw [if_neg (by omega)]
    exact ⟨a, rfl, rfl, hx⟩
  | d + 1, k, a, at_, sd, hd, h0, h1, ha, hx, hk => by
    obtain ⟨k, rfl⟩ : ∃ m, k = m + 1 := ⟨k - 1, by omega⟩
    obtain ⟨v, a', s', hv, g1, g2, g3, g4, g5, g6⟩ := Pick_ l0 hl at_ sd 25 h0 (by omega)
    have := g5 (by omega)
    simp only [spec_A2Gaps.l0]
    rw [if_pos (by omega), hv]; simp only [Option.bind_some]
    rw [if_pos (by omega), w64 (n := v - 12) (by omega) (by omega), w64 (by omega) (by omega), show ((d + 1 : Nat) : Int) - 1 = (d : Int) by omega]
    obtain ⟨g, e, el, ex⟩ := A2Gaps_l l0 hl d k (a ++ [v - 12]) a' s' (by omega) (by omega) (by omega) (by simp; omega) (fun x h => by
      rcases List.mem_append.1 h with h | h
      · exact hx x h
      · simp at h; omega) (by omega)
    exact ⟨g, e, by simp at el; omega, ex⟩
theorem A2Gaps_ (l0 : List Int) (hl : ∀ x ∈ l0, 0 ≤ x ∧ x ≤ 255) : ∃ g, (∀ k, 100 ≤ k → spec_A2Gaps.f k l0 = some g) ∧ okS g = true ∧ g.length ≤ 7 ∧ ∀ x ∈ g, -12 ≤ x ∧ x ≤ 12 := by
  obtain ⟨v, a', s', hv, g1, g2, g3, g4, g5, g6⟩ := Pick_ l0 hl 0 0 6 (by omega) (by omega)
  have := g5 (by omega)
  obtain ⟨g, e, el, ex⟩ := A2Gaps_l l0 hl (2 + v).toNat 100 [] a' s' (by omega) (by omega) (by omega) (by simp; omega) (by simp) (by omega)
  simp at el
  refine ⟨g, fun k hk => ?_, ?_, by omega, ex⟩
  · unfold spec_A2Gaps.f spec_l00From.f
    simp only [Option.bind_some]; rw [hv]; simp only [Option.bind_some]
    rw [w64 (by omega) (by omega), show 2 + v = (((2 + v).toNat : Nat) : Int) by omega]
    exact at_rounds (g := fun k => spec_A2Gaps.l0 k [] ((2 + v).toNat : Nat) l0 a' s') (fun k => spec_A2Gaps.mono_l k _ _ _ _ _) hk e
  · unfold okS
    rw [decide_eq_true (show 2 ≤ (g.length : Int) ∧ (g.length : Int) ≤ 24 by omega)]
    simp only [Bool.true_and, List.all_eq_true, decide_eq_true_eq]
    intro x hx; have := ex x hx; omega

theorem A2Shifts_l (l0 : List Int) (hl : ∀ x ∈ l0, 0 ≤ x ∧ x ≤ 255) (n m : Int) (hn : n ≤ 100) (m0 : 0 ≤ m) (m1 : m ≤ 50) : ∀ (d k : Nat) (i : Int) (a : List Int) (at_ sd : Int), n - i = d → 0 ≤ i → 0 ≤ at_ → at_ + 2 * d ≤ 1000 → (a.length : Int) = i → (∀ x ∈ a, -m ≤ x ∧ x ≤ m) → d < k → ∃ g, spec_A2Shifts.l0 k n m a i l0 at_ sd = some g ∧ (g.length : Int) = n ∧ ∀ x ∈ g, -m ≤ x ∧ x ≤ m
  | 0, k, i, a, at_, sd, hd, hi, h0, h1, ha, hx, hk => by
    obtain ⟨k, rfl⟩ : ∃ m, k = m + 1 := ⟨k - 1, by omega⟩
    simp only [spec_A2Shifts.l0]; rw [if_neg (by omega)]
    exact ⟨a, rfl, by omega, hx⟩
  | d + 1, k, i, a, at_, sd, hd, hi, h0, h1, ha, hx, hk => by
    obtain ⟨k, rfl⟩ : ∃ m, k = m + 1 := ⟨k - 1, by omega⟩
    obtain ⟨v, a', s', hv, g1, g2, g3, g4, g5, g6⟩ := Pick_ l0 hl at_ sd (2 * m + 1) h0 (by omega)
    have := g5 (by omega)
    simp only [spec_A2Shifts.l0]
    rw [if_pos (by omega), w64 (n := 2 * m) (by omega) (by omega), w64 (n := 2 * m + 1) (by omega) (by omega), hv]; simp only [Option.bind_some]
    rw [if_pos (by omega), w64 (n := v - m) (by omega) (by omega), w64 (n := i + 1) (by omega) (by omega)]
    exact A2Shifts_l l0 hl n m hn m0 m1 d k (i + 1) (a ++ [v - m]) a' s' (by omega) (by omega) (by omega) (by omega) (by simp; omega) (fun x h => by
      rcases List.mem_append.1 h with h | h
      · exact hx x h
      · simp at h; omega) (by omega)
theorem A2Shifts_ (l0 : List Int) (hl : ∀ x ∈ l0, 0 ≤ x ∧ x ≤ 255) (n m : Int) (hn0 : 0 ≤ n) (hn : n ≤ 100) (m0 : 0 ≤ m) (m1 : m ≤ 50) : ∃ g, (∀ k, 200 ≤ k → spec_A2Shifts.f k l0 n m = some g) ∧ (g.length : Int) = n ∧ ∀ x ∈ g, -m ≤ x ∧ x ≤ m := by
  obtain ⟨g, e, el, ex⟩ := A2Shifts_l l0 hl n m hn m0 m1 n.toNat 200 0 [] 0 0 (by omega) (by omega) (by omega) (by omega) (by simp) (by simp) (by omega)
  refine ⟨g, fun k hk => ?_, el, ex⟩
  unfold spec_A2Shifts.f spec_l00From.f
  simp only [Option.bind_some]
  exact at_rounds (g := fun k => spec_A2Shifts.l0 k n m [] 0 l0 0 0) (fun k => spec_A2Shifts.mono_l k _ _ _ _ _ _ _) hk e

/-- The gap of a seam after shifts. -/
def gap (g s : List Int) (i : Int) : Int := rd g i + rd s ((i + 1) % (g.length : Int)) - rd s i
def okSh (g s : List Int) : Bool := decide ((s.length : Int) = (g.length : Int)) && s.all fun x => decide (-50 ≤ x ∧ x ≤ 50)
theorem okSh_says {g s : List Int} (h : okSh g s = true) : s.length = g.length ∧ ∀ i : Int, 0 ≤ i → i < s.length → -50 ≤ rd s i ∧ rd s i ≤ 50 := by
  unfold okSh at h
  simp only [Bool.and_eq_true, decide_eq_true_eq, List.all_eq_true] at h
  exact ⟨by omega, fun i h0 h1 => h.2 _ (rd_in s i h0 h1)⟩
def gapsR (g s : List Int) : List Int × Int := if okS g = true then (if okSh g s = true then (from_ (gap g s) 0 g.length, 0) else ([], 2)) else ([], 1)

theorem gap_nat (g s : List Int) (k : Nat) (hk : k < g.length) : gap g s (k : Int) = rd g (k : Int) + rd s ((nx g.length k : Nat) : Int) - rd s (k : Int) := by
  unfold gap nx; rw [Int.natCast_emod]; rfl
theorem cyc_of_gaps {g s : List Int} {m w : Int} (hs : ∀ k : Nat, k < g.length → -m ≤ rd s (k : Int) ∧ rd s (k : Int) ≤ m) (hw : ∀ k : Nat, k < g.length → -w ≤ gap g s (k : Int) ∧ gap g s (k : Int) ≤ w) : Cyc g.length (nx g.length) (fun k => rd g (k : Int)) w m (fun k => rd s (k : Int)) := by
  intro k hk
  have h1 := hs k hk
  have h2 := hw k hk
  rw [gap_nat g s k hk] at h2
  simp only []
  omega
theorem gaps_of_cyc {g s : List Int} {m w : Int} (h : Cyc g.length (nx g.length) (fun k => rd g (k : Int)) w m (fun k => rd s (k : Int))) (k : Nat) (hk : k < g.length) : -w ≤ gap g s (k : Int) ∧ gap g s (k : Int) ≤ w := by
  have := h k hk
  simp only [] at this
  rw [gap_nat g s k hk]; omega
/-- The greatest gap behind shifts is never less than the least one. -/
theorem wor_least {g s : List Int} {m W : Int} (hW : IsLW g m W) (hs : ∀ k : Nat, k < g.length → -m ≤ rd s (k : Int) ∧ rd s (k : Int) ≤ m) : W ≤ wor (from_ (gap g s) 0 g.length) 0 := by
  obtain ⟨w1, w2, w3⟩ := wor_says (from_ (gap g s) 0 g.length) 0
  by_cases c : W ≤ wor (from_ (gap g s) 0 g.length) 0
  · exact c
  · refine absurd ⟨_, cyc_of_gaps hs (fun k hk => ?_)⟩ (hW.2.2.2 _ w1 (by omega))
    have h2 := w2 _ (rd_in (from_ (gap g s) 0 g.length) (k : Int) (by omega) (by rw [from_len]; omega))
    rw [rd_from _ _ _ (by omega) (by omega)] at h2
    unfold ab at h2; split at h2 <;> omega
theorem from_snoc (f : Int → Int) (d : Nat) : from_ f 0 (d + 1) = from_ f 0 d ++ [f (d : Int)] := by
  unfold from_; rw [List.range_succ, List.map_append]; simp
/-- Shifts do not change the sum. -/
theorem gaps_sum (g s : List Int) (hn : 1 ≤ g.length) : (from_ (gap g s) 0 g.length).sum = g.sum := by
  have key : ∀ d : Nat, d < g.length → (from_ (gap g s) 0 d).sum = (from_ (rd g) 0 d).sum + rd s (d : Int) - rd s 0 := by
    intro d
    induction d with
    | zero => intro _; simp [from_]
    | succ d ih =>
      intro hd
      have := ih (by omega)
      rw [from_snoc, from_snoc, List.sum_append, List.sum_append, this, List.sum_singleton, List.sum_singleton, gap_nat g s d (by omega), nx_ _ _ (by omega), if_neg (by omega)]
      omega
  obtain ⟨d, hd⟩ : ∃ d, g.length = d + 1 := ⟨g.length - 1, by omega⟩
  have := key d (by omega)
  have e2 : g.sum = (from_ (rd g) 0 g.length).sum := by rw [from_rd]
  rw [e2, hd, from_snoc, from_snoc, List.sum_append, List.sum_append, this, List.sum_singleton, List.sum_singleton, gap_nat g s d (by omega), nx_ _ _ (by omega), if_pos (by omega)]
  show _ + (_ + rd s 0 - _) = _
  omega

theorem In_ (a b c : Int) : spec_l00In.f a b c = some (decide (b ≤ a ∧ a ≤ c)) := by
  unfold spec_l00In.f
  by_cases h : a ≥ b
  · rw [if_pos h]; simp [show b ≤ a from h]
  · rw [if_neg h]; simp [show ¬ b ≤ a from h]

theorem specOk_l (l : List Int) (hl : l.length ≤ 1048576) : ∀ (d k : Nat) (i : Int), (l.length : Int) - i = d → 0 ≤ i → d < k → spec_l19Ok.l0 k l i = some ((l.drop i.toNat).all (fun x => decide (-1000 ≤ x ∧ x ≤ 1000)) && decide (2 ≤ (l.length : Int) ∧ (l.length : Int) ≤ 24)) := by
  intro d
  induction d with
  | zero =>
    intro k i hd h0 hk
    obtain ⟨k, rfl⟩ : ∃ m, k = m + 1 := ⟨k - 1, by omega⟩
    simp only [spec_l19Ok.l0]; rw [if_neg (by omega), In_, List.drop_eq_nil_of_le (by omega)]; simp
  | succ d ih =>
    intro k i hd h0 hk
    obtain ⟨k, rfl⟩ : ∃ m, k = m + 1 := ⟨k - 1, by omega⟩
    simp only [spec_l19Ok.l0]
    rw [if_pos (by omega), if_pos h0, In_, drop_rd l i h0 (by omega), w64 (by omega) (by omega), ih k (i + 1) (by omega) (by omega) (by omega)]
    simp only [Option.bind_some, List.all_cons]
    by_cases c : -1000 ≤ rd l i ∧ rd l i ≤ 1000
    · simp [c]
    · simp [c]
theorem SpecOkS_ (l : List Int) (hl : l.length ≤ 1048576) (k : Nat) (hk : 1048577 ≤ k) : spec_l19Ok.f k l = some (okS l) := by
  unfold spec_l19Ok.f okS
  rw [specOk_l l hl l.length k 0 (by omega) (by omega) (by omega)]
  simp [Bool.and_comm]

theorem spec19After_l (g s : List Int) (hg : okS g = true) (hs : okSh g s = true) : ∀ (d k : Nat) (i : Int) (a : List Int), (g.length : Int) - i = d → 0 ≤ i → (a.length : Int) ≤ i → d < k → spec_l19After.l0 k g s a i = some (a ++ from_ (gap g s) i d) := by
  obtain ⟨g1, g2, g3, g4⟩ := okS_says hg
  obtain ⟨s1, s2⟩ := okSh_says hs
  intro d
  induction d with
  | zero =>
    intro k i a hd h0 ha hk
    obtain ⟨k, rfl⟩ : ∃ m, k = m + 1 := ⟨k - 1, by omega⟩
    simp only [spec_l19After.l0]; rw [if_neg (by omega)]; simp [from_]
  | succ d ih =>
    intro k i a hd h0 ha hk
    obtain ⟨k, rfl⟩ : ∃ m, k = m + 1 := ⟨k - 1, by omega⟩
    have m0 : 0 ≤ (i + 1) % (g.length : Int) := Int.emod_nonneg _ (by omega)
    have m1 : (i + 1) % (g.length : Int) < (g.length : Int) := Int.emod_lt_of_pos _ (by omega)
    have x1 := g4 i h0 (by omega)
    have x2 := s2 i h0 (by omega)
    have x3 := s2 _ m0 (by omega)
    simp only [spec_l19After.l0]
    rw [s1, w64 (n := i + 1) (by omega) (by omega), tmod_eq _ _ (by omega), if_pos (show 0 ≤ i + 1 by omega)]
    rw [if_pos (by omega), if_pos h0, if_neg (by omega), if_pos m0, if_pos m1, if_pos (by omega), if_pos (by omega), w64 (n := rd g i + rd s ((i + 1) % (g.length : Int))) (by omega) (by omega), w64 (by omega) (by omega), ih k (i + 1) _ (by omega) (by omega) (by simp; omega) (by omega), from_succ]
    simp [gap]
theorem specGaps_l (g s : List Int) (hs : s.length ≤ 1048576) (hg : okS g = true) : ∀ (d k : Nat) (i : Int), (s.length : Int) - i = d → 0 ≤ i → d + 50 ≤ k → (∀ j : Int, 0 ≤ j → j < i → -50 ≤ rd s j ∧ rd s j ≤ 50) → spec_GapsAfter.l0 k g s i = some (if okSh g s = true then (from_ (gap g s) 0 g.length, 0) else ([], 2)) := by
  obtain ⟨g1, g2, g3, g4⟩ := okS_says hg
  intro d
  induction d with
  | zero =>
    intro k i hd h0 hk hp
    obtain ⟨k, rfl⟩ : ∃ m, k = m + 1 := ⟨k - 1, by omega⟩
    simp only [spec_GapsAfter.l0]; rw [if_neg (by omega)]
    have hall : s.all (fun x => decide (-50 ≤ x ∧ x ≤ 50)) = true := by
      rw [List.all_eq_true]; intro x hx
      obtain ⟨n, hn, rfl⟩ := List.getElem_of_mem hx
      have := hp n (by omega) (by omega)
      unfold rd at this
      rw [List.getD_eq_getElem?_getD, Int.toNat_natCast, List.getElem?_eq_getElem hn] at this
      simpa using this
    by_cases e : (s.length : Int) = (g.length : Int)
    · have ho : okSh g s = true := by unfold okSh; simp only [e, hall]; simp
      rw [if_pos e, if_pos ho]
      unfold spec_l19After.f
      rw [spec19After_l g s hg ho g.length k 0 [] (by omega) (by omega) (by simp) (by omega)]; simp
    · have ho : ¬ okSh g s = true := by unfold okSh; simp [e]
      rw [if_neg e, if_neg ho]
  | succ d ih =>
    intro k i hd h0 hk hp
    obtain ⟨k, rfl⟩ : ∃ m, k = m + 1 := ⟨k - 1, by omega⟩
    simp only [spec_GapsAfter.l0]
    rw [if_pos (by omega), if_pos h0, In_]; simp only [Option.bind_some, decide_eq_true_eq]
    by_cases c : -50 ≤ rd s i ∧ rd s i ≤ 50
    · rw [if_pos c, w64 (by omega) (by omega)]
      refine ih k (i + 1) (by omega) (by omega) (by omega) (fun j a b => ?_)
      by_cases e : j = i
      · subst e; exact c
      · exact hp j a (by omega)
    · rw [if_neg c]
      have ho : ¬ okSh g s = true := fun h => c ((okSh_says h).2 i h0 (by omega))
      rw [if_neg ho]
theorem SpecGaps_ (g s : List Int) (hl : g.length ≤ 1048576) (hs : s.length ≤ 1048576) (k : Nat) (hk : 1048700 ≤ k) : spec_GapsAfter.f k g s = some (gapsR g s) := by
  unfold spec_GapsAfter.f gapsR
  rw [SpecOkS_ g hl k (by omega)]; simp only [Option.bind_some]
  by_cases h : okS g = true
  · rw [if_pos h, if_pos h]; exact specGaps_l g s hs h s.length k 0 (by omega) (by omega) (by omega) (fun j a b => by omega)
  · rw [if_neg h, if_neg h]

theorem implGaps_l (g s : List Int) (hg : okS g = true) (hs : okSh g s = true) : ∀ (d k : Nat) (i : Int) (a : List Int), (g.length : Int) - i = d → 0 ≤ i → (a.length : Int) ≤ i → d < k → impl_GapsAfter.l0 k g s a g g.length i = some (a ++ from_ (gap g s) i d, 0) := by
  obtain ⟨g1, g2, g3, g4⟩ := okS_says hg
  obtain ⟨s1, s2⟩ := okSh_says hs
  intro d
  induction d with
  | zero =>
    intro k i a hd h0 ha hk
    obtain ⟨k, rfl⟩ : ∃ m, k = m + 1 := ⟨k - 1, by omega⟩
    simp only [impl_GapsAfter.l0]; rw [if_neg (by omega)]; simp [from_]
  | succ d ih =>
    intro k i a hd h0 ha hk
    obtain ⟨k, rfl⟩ : ∃ m, k = m + 1 := ⟨k - 1, by omega⟩
    have m0 : 0 ≤ (i + 1) % (g.length : Int) := Int.emod_nonneg _ (by omega)
    have m1 : (i + 1) % (g.length : Int) < (g.length : Int) := Int.emod_lt_of_pos _ (by omega)
    have x1 := g4 i h0 (by omega)
    have x2 := s2 i h0 (by omega)
    have x3 := s2 _ m0 (by omega)
    simp only [impl_GapsAfter.l0]
    rw [s1, w64 (n := i + 1) (by omega) (by omega), tmod_eq _ _ (by omega), if_pos (show 0 ≤ i + 1 by omega)]
    rw [if_pos (by omega), if_pos h0, if_pos (by omega), if_neg (by omega), if_pos m0, if_pos m1, if_pos (by omega), if_pos (by omega), w64 (n := rd g i + rd s ((i + 1) % (g.length : Int))) (by omega) (by omega), w64 (by omega) (by omega), ih k (i + 1) _ (by omega) (by omega) (by simp; omega) (by omega), from_succ]
    simp [gap]
theorem ImplGaps_ (g s : List Int) (k : Nat) (hk : 100 ≤ k) : impl_GapsAfter.f k g s = some (gapsR g s) := by
  obtain ⟨k, rfl⟩ : ∃ m, k = m + 1 := ⟨k - 1, by omega⟩
  unfold impl_GapsAfter.f gapsR
  rw [ImplOkS_ g]; simp only [Option.bind_some, check_, impl_allWithin.f, impl_GapsAfter.j0]
  by_cases h : okS g = true
  · by_cases e : (s.length : Int) = (g.length : Int)
    · by_cases hA : s.all (fun x => decide (-50 ≤ x ∧ x ≤ 50)) = true
      · have ho : okSh g s = true := by unfold okSh; simp only [e, hA]; simp
        obtain ⟨g1, g2, g3, g4⟩ := okS_says h
        rw [if_pos e]; simp only [h, hA, ho, if_true]
        rw [implGaps_l g s h ho g.length k 0 [] (by omega) (by omega) (by simp) (by omega)]; simp
      · have ho : ¬ okSh g s = true := by unfold okSh; simp only [Bool.and_eq_true]; exact fun x => hA x.2
        rw [if_pos e]; simp only [h, if_true, if_neg hA, if_neg ho]; simp
    · have ho : ¬ okSh g s = true := by unfold okSh; simp [e]
      rw [if_neg e]; simp only [h, if_true, if_neg ho]; simp
  · simp only [if_neg h]; split <;> simp

theorem Size_ (a : Int) (ha : -9223372036854775807 ≤ a) (ha2 : a ≤ 9223372036854775807) : spec_l00Size.f a = some (ab a) := by
  unfold spec_l00Size.f ab
  by_cases h : a < 0
  · rw [if_pos h, if_pos h, w64 (by omega) (by omega)]
  · rw [if_neg h, if_neg h]

theorem Max_ (a b : Int) : spec_l00Max.f a b = some (mx a b) := by
  unfold spec_l00Max.f mx
  by_cases h : a > b
  · rw [if_pos h, if_neg (by omega)]
  · rw [if_neg h]; by_cases h2 : a < b
    · rw [if_pos h2]
    · rw [if_neg h2, show a = b by omega]

theorem specWorst_l (l : List Int) (hl : l.length ≤ 1048576) (hb : ∀ i : Int, 0 ≤ i → i < l.length → -9223372036854775807 ≤ rd l i ∧ rd l i ≤ 9223372036854775807) : ∀ (d k : Nat) (i a : Int), (l.length : Int) - i = d → 0 ≤ i → d < k → spec_l19Worst.l0 k l a i = some (wor (l.drop i.toNat) a) := by
  intro d
  induction d with
  | zero =>
    intro k i a hd h0 hk
    obtain ⟨k, rfl⟩ : ∃ m, k = m + 1 := ⟨k - 1, by omega⟩
    simp only [spec_l19Worst.l0]; rw [if_neg (by omega), List.drop_eq_nil_of_le (by omega)]; rfl
  | succ d ih =>
    intro k i a hd h0 hk
    obtain ⟨k, rfl⟩ : ∃ m, k = m + 1 := ⟨k - 1, by omega⟩
    have hx := hb i h0 (by omega)
    simp only [spec_l19Worst.l0]
    rw [if_pos (by omega), if_pos h0, Size_ _ hx.1 hx.2]; simp only [Option.bind_some]
    rw [Max_]; simp only [Option.bind_some]
    rw [w64 (n := i + 1) (by omega) (by omega), ih k (i + 1) _ (by omega) (by omega) (by omega), drop_rd l i h0 (by omega)]; rfl
theorem SpecWorst_ (l : List Int) (h : okS l = true) (k : Nat) (hk : 30 ≤ k) : spec_l19Worst.f k l = some (wor l 0) := by
  obtain ⟨h1, h2, h3, h4⟩ := okS_says h
  unfold spec_l19Worst.f
  rw [specWorst_l l (by omega) (fun i a b => by have := h4 i a b; omega) l.length k 0 0 (by omega) (by omega) (by omega)]; simp

theorem SpecWorstGap_ (l : List Int) (hl : l.length ≤ 1048576) (k : Nat) (hk : 1048577 ≤ k) : spec_WorstGap.f k l = some (if okS l = true then (wor l 0, 0) else (0, 1)) := by
  unfold spec_WorstGap.f
  rw [SpecOkS_ l hl k hk]; simp only [Option.bind_some]
  cases h : okS l
  · rfl
  · rw [SpecWorst_ l h k (by omega)]; rfl

theorem absolute_ (a : Int) (ha : -9223372036854775807 ≤ a) (ha2 : a ≤ 9223372036854775807) : impl_absolute.f a = some (ab a) := by
  unfold impl_absolute.f ab mx
  rw [w64 (n := -a) (by omega) (by omega)]
  by_cases h : a < 0
  · rw [if_pos h, if_pos (by omega)]
  · rw [if_neg h, if_neg (by omega)]

theorem implWorst_l (l : List Int) (hl : l.length ≤ 1048576) (hb : ∀ i : Int, 0 ≤ i → i < l.length → -9223372036854775807 ≤ rd l i ∧ rd l i ≤ 9223372036854775807) : ∀ (d k : Nat) (i a : Int), (l.length : Int) - i = d → 0 ≤ i → d < k → impl_WorstGap.l0 k a l l.length i = some (wor (l.drop i.toNat) a, 0) := by
  intro d
  induction d with
  | zero =>
    intro k i a hd h0 hk
    obtain ⟨k, rfl⟩ : ∃ m, k = m + 1 := ⟨k - 1, by omega⟩
    simp only [impl_WorstGap.l0]; rw [if_neg (by omega), List.drop_eq_nil_of_le (by omega)]; rfl
  | succ d ih =>
    intro k i a hd h0 hk
    obtain ⟨k, rfl⟩ : ∃ m, k = m + 1 := ⟨k - 1, by omega⟩
    have hx := hb i h0 (by omega)
    simp only [impl_WorstGap.l0]
    rw [if_pos (by omega), if_pos h0, if_pos (by omega), absolute_ _ hx.1 hx.2]; simp only [Option.bind_some]
    rw [w64 (n := i + 1) (by omega) (by omega), ih k (i + 1) _ (by omega) (by omega) (by omega), drop_rd l i h0 (by omega)]; rfl
theorem ImplWorstGap_ (l : List Int) (k : Nat) (hk : 30 ≤ k) : impl_WorstGap.f k l = some (if okS l = true then (wor l 0, 0) else (0, 1)) := by
  unfold impl_WorstGap.f
  rw [ImplOkS_ l]; simp only [Option.bind_some]
  cases h : okS l
  · rfl
  · obtain ⟨h1, h2, h3, h4⟩ := okS_says h
    simp only [if_true]
    rw [implWorst_l l (by omega) (fun i a b => by have := h4 i a b; omega) l.length k 0 0 (by omega) (by omega) (by omega)]; simp

/-- A sum as the machine reckons it. -/
def wsum (l : List Int) (a : Int) : Int := l.foldl (fun s x => wrap64 (s + x)) a
theorem wsum_is (B : Int) (hB : 0 ≤ B) : ∀ (l : List Int) (a : Int), (∀ x ∈ l, -B ≤ x ∧ x ≤ B) → -9000000000000000000 + B * l.length ≤ a → a + B * l.length ≤ 9000000000000000000 → wsum l a = a + l.sum ∧ -(B * l.length) ≤ l.sum ∧ l.sum ≤ B * l.length
  | [], a, _, _, _ => by simp [wsum]
  | x :: l, a, hx, h1, h2 => by
    have hxb := hx x (by simp)
    have e : B * ((x :: l).length : Int) = B * (l.length : Int) + B := by simp [Int.mul_add]
    have hn : 0 ≤ B * (l.length : Int) := Int.mul_nonneg hB (by omega)
    have ih := wsum_is B hB l (a + x) (fun y hy => hx y (by simp [hy])) (by omega) (by omega)
    refine ⟨?_, ?_, ?_⟩
    · unfold wsum at ih ⊢; rw [List.foldl_cons, w64 (by omega) (by omega), ih.1, List.sum_cons]; omega
    · rw [List.sum_cons]; omega
    · rw [List.sum_cons]; omega

theorem implSum_l (l : List Int) (hl : l.length ≤ 1048576) : ∀ (d k : Nat) (i a : Int), (l.length : Int) - i = d → 0 ≤ i → d < k → impl_sumOf.l0 k a l l.length i = some (wsum (l.drop i.toNat) a) := by
  intro d
  induction d with
  | zero =>
    intro k i a hd h0 hk
    obtain ⟨k, rfl⟩ : ∃ m, k = m + 1 := ⟨k - 1, by omega⟩
    simp only [impl_sumOf.l0]; rw [if_neg (by omega), List.drop_eq_nil_of_le (by omega)]; rfl
  | succ d ih =>
    intro k i a hd h0 hk
    obtain ⟨k, rfl⟩ : ∃ m, k = m + 1 := ⟨k - 1, by omega⟩
    simp only [impl_sumOf.l0]
    rw [if_pos (by omega), if_pos h0, if_pos (by omega), w64 (n := i + 1) (by omega) (by omega), ih k (i + 1) _ (by omega) (by omega) (by omega), drop_rd l i h0 (by omega)]; rfl
theorem ImplSum_ (l : List Int) (hl : l.length ≤ 1048576) (k : Nat) (hk : l.length < k) : impl_sumOf.f k l = some (wsum l 0) := by
  unfold impl_sumOf.f
  rw [implSum_l l hl l.length k 0 0 (by omega) (by omega) hk]; simp

theorem ImplClosing_ (l : List Int) (hl : l.length ≤ 1048576) (k : Nat) (hk : l.length < k) : impl_ClosingError.f k l = some (if okS l = true then (wsum l 0, 0) else (0, 1)) := by
  unfold impl_ClosingError.f
  rw [ImplOkS_ l, ImplSum_ l hl k hk]; simp only [Option.bind_some]
  cases okS l <;> rfl

theorem a2At_ (l : List Int) (hl : ∀ x ∈ l, 0 ≤ x ∧ x ≤ 255) (i n : Int) (h0 : 0 ≤ i) (hn : 1 ≤ n) : ∃ v, laws_a2At.f l i n = some v ∧ 0 ≤ v ∧ v < n := by
  unfold laws_a2At.f
  by_cases c : i ≥ (l.length : Int)
  · rw [if_pos c]; exact ⟨0, rfl, by omega, by omega⟩
  · have hb := hl _ (rd_mem l i h0 (by omega))
    rw [if_neg c, if_neg (by omega), if_pos h0, if_pos (by omega), if_neg (by omega), w64 (by omega) (by omega), tmod_eq _ _ (by omega), if_pos hb.1]
    exact ⟨_, rfl, Int.emod_nonneg _ (by omega), Int.emod_lt_of_pos _ (by omega)⟩

theorem a2Long_ (l0 l1 : List Int) : ∃ b, laws_a2Long.f l0 l1 = some b := by
  unfold laws_a2Long.f; split <;> exact ⟨_, rfl⟩

theorem a2Sum_l (l : List Int) (hl : l.length ≤ 1048576) : ∀ (d k : Nat) (i a : Int), (l.length : Int) - i = d → 0 ≤ i → d < k → laws_a2Sum.l0 k l a i = some (wsum (l.drop i.toNat) a) := by
  intro d
  induction d with
  | zero =>
    intro k i a hd h0 hk
    obtain ⟨k, rfl⟩ : ∃ m, k = m + 1 := ⟨k - 1, by omega⟩
    simp only [laws_a2Sum.l0]; rw [if_neg (by omega), List.drop_eq_nil_of_le (by omega)]; rfl
  | succ d ih =>
    intro k i a hd h0 hk
    obtain ⟨k, rfl⟩ : ∃ m, k = m + 1 := ⟨k - 1, by omega⟩
    simp only [laws_a2Sum.l0]
    rw [if_pos (by omega), if_pos h0, w64 (n := i + 1) (by omega) (by omega), ih k (i + 1) _ (by omega) (by omega) (by omega), drop_rd l i h0 (by omega)]; rfl
theorem a2Sum_ (l : List Int) (hl : l.length ≤ 1048576) (k : Nat) (hk : l.length < k) : laws_a2Sum.f k l = some (wsum l 0) := by
  unfold laws_a2Sum.f
  rw [a2Sum_l l hl l.length k 0 0 (by omega) (by omega) hk]; simp

theorem bytes_of {l : List Int} (h : ∀ x ∈ l, (Lit.int .u8 x).wf = true) : ∀ x ∈ l, 0 ≤ x ∧ x ≤ 255 := by
  intro x hx
  simpa [Lit.wf, IntKind.min, IntKind.max, IntKind.signed, IntKind.bits] using h x hx

theorem Seams_l (x1 g : List Int) (hx : ∀ x ∈ x1, 0 ≤ x ∧ x ≤ 255) (hg : okS g = true) (h7 : g.length ≤ 7) (hg12 : ∀ x ∈ g, -12 ≤ x ∧ x ≤ 12) (m W : Int) (m0 : 0 ≤ m) (m1 : m ≤ 50) (hW : IsLW g m W) (s : List Int) (hs : ∀ i : Int, 0 ≤ i → i < s.length → -m ≤ rd s i ∧ rd s i ≤ m) : ∀ (d : Nat) (i : Int), (s.length : Int) - i = d → 0 ≤ i → (s.length : Int) ≤ 100 → Ev (fun k => laws_FnSeams.l0 k x1 g m W s i) true := by
  obtain ⟨g1, g2, g3, g4⟩ := okS_says hg
  intro d
  induction d with
  | zero =>
    intro i hd h0 hsl
    obtain ⟨D, hD, hDl, hDx⟩ := A2Shifts_ x1 hx (g.length : Int) m (by omega) (by omega) m0 m1
    have hDk : ∀ k : Nat, k < g.length → -m ≤ rd D (k : Int) ∧ rd D (k : Int) ≤ m := fun k hk => hDx _ (rd_in D (k : Int) (by omega) (by omega))
    have ho : okSh g D = true := by
      unfold okSh
      rw [decide_eq_true hDl]
      simp only [Bool.true_and, List.all_eq_true, decide_eq_true_eq]
      intro x h; have := hDx x h; omega
    have hR : gapsR g D = (from_ (gap g D) 0 g.length, 0) := by unfold gapsR; rw [if_pos hg, if_pos ho]
    have hA : okS (from_ (gap g D) 0 g.length) = true := by
      unfold okS
      rw [from_len, decide_eq_true (show 2 ≤ (g.length : Int) ∧ (g.length : Int) ≤ 24 by omega)]
      simp only [Bool.true_and, List.all_eq_true, decide_eq_true_eq]
      intro x h
      unfold from_ at h
      simp only [List.mem_map, List.mem_range] at h
      obtain ⟨j, hj, rfl⟩ := h
      rw [Int.zero_add, gap_nat g D j hj]
      have a := hg12 _ (rd_in g (j : Int) (by omega) (by omega))
      have b := hDk j hj
      have c := hDk _ (nx_ok g.length g1 j hj).1
      omega
    refine ⟨1048800, fun k hk => ?_⟩
    obtain ⟨k, rfl⟩ : ∃ m, k = m + 1 := ⟨k - 1, by omega⟩
    simp only [laws_FnSeams.l0]
    rw [if_neg (by omega), hD k (by omega)]; simp only [Option.bind_some]
    rw [SpecGaps_ g D (by omega) (by omega) k (by omega), hR]; simp only [Option.bind_some]
    rw [SpecWorstGap_ _ (by rw [from_len]; omega) k (by omega), hA]; simp only [Option.bind_some, if_true]
    rw [decide_eq_true (wor_least hW hDk)]
  | succ d ih =>
    intro i hd h0 hsl
    have := hs i h0 (by omega)
    refine Ev.step (h := fun k => laws_FnSeams.l0 k x1 g m W s (i + 1)) (fun k => ?_) (ih (i + 1) (by omega) (by omega) hsl)
    simp only [laws_FnSeams.l0]
    rw [if_pos (by omega), if_pos h0, w64 (n := -m) (by omega) (by omega), if_neg (by omega), if_neg (by omega), w64 (n := i + 1) (by omega) (by omega)]

theorem FnSeams : laws_FnSeams.Pure := by
  intro l0 l1 _ _ w0 _ _ w1
  have w0 := bytes_of w0
  have w1 := bytes_of w1
  obtain ⟨b, hb⟩ := a2Long_ l0 l1
  obtain ⟨g, hg, ok, h7, h12⟩ := A2Gaps_ l0 w0
  obtain ⟨m, hm, m0, m4⟩ := a2At_ l1 w1 0 5 (by omega) (by omega)
  obtain ⟨g1, g2, g3, g4⟩ := okS_says ok
  obtain ⟨W', hW⟩ := lw_ ok m0
  obtain ⟨K1, h1⟩ := ImplLW_ g m ok m0 (by omega) W' hW
  obtain ⟨p, hp, K2, h2⟩ := ImplBS_ g m ok m0 (by omega) W' hW
  have hsl := pts_len g.length p g.length
  have hsr : ∀ k : Nat, k < g.length → rd (pts g.length p g.length) (k : Int) = p k := fun k hk => by rw [pts_rd _ _ _ _ (by omega) (by omega), Int.toNat_natCast]
  have hcy : Cyc g.length (nx g.length) (fun k => rd g (k : Int)) W' m (fun k => rd (pts g.length p g.length) (k : Int)) := cyc_congr (nx_ok _ g1) (fun k hk => (hsr k hk).symm) hp.cyc
  generalize pts g.length p g.length = s at h2 hsl hcy
  have hs : ∀ i : Int, 0 ≤ i → i < s.length → -m ≤ rd s i ∧ rd s i ≤ m := by
    intro i a c
    have := hcy i.toNat (by omega)
    have e : ((i.toNat : Nat) : Int) = i := by omega
    simp only [e] at this
    exact ⟨this.1, this.2.1⟩
  have hsk : ∀ k : Nat, k < g.length → -m ≤ rd s (k : Int) ∧ rd s (k : Int) ≤ m := fun k hk => hs _ (by omega) (by omega)
  have ho : okSh g s = true := by
    unfold okSh
    rw [decide_eq_true (show (s.length : Int) = (g.length : Int) by omega)]
    simp only [Bool.true_and, List.all_eq_true, decide_eq_true_eq]
    intro x h
    obtain ⟨n, hn, rfl⟩ := List.getElem_of_mem h
    have := hs n (by omega) (by omega)
    unfold rd at this
    rw [List.getD_eq_getElem?_getD, Int.toNat_natCast, List.getElem?_eq_getElem hn] at this
    simp only [Option.getD_some] at this
    omega
  have hR : gapsR g s = (from_ (gap g s) 0 g.length, 0) := by unfold gapsR; rw [if_pos ok, if_pos ho]
  have hAx : ∀ x ∈ from_ (gap g s) 0 g.length, -W' ≤ x ∧ x ≤ W' := by
    intro x h
    unfold from_ at h
    simp only [List.mem_map, List.mem_range] at h
    obtain ⟨j, hj, rfl⟩ := h
    rw [Int.zero_add]
    exact gaps_of_cyc hcy j hj
  have hA : okS (from_ (gap g s) 0 g.length) = true := by
    unfold okS
    rw [from_len, decide_eq_true (show 2 ≤ (g.length : Int) ∧ (g.length : Int) ≤ 24 by omega)]
    simp only [Bool.true_and, List.all_eq_true, decide_eq_true_eq]
    intro x h
    have := hAx x h; have := hW.2.1; omega
  have hwor : wor (from_ (gap g s) 0 g.length) 0 = W' := by
    have a := wor_least hW hsk
    obtain ⟨w1, w2, w3⟩ := wor_says (from_ (gap g s) 0 g.length) 0
    rcases w3 with w3 | ⟨x, hx, w3⟩
    · have := hW.1; omega
    · have := hAx x hx
      rw [w3] at a ⊢
      unfold ab at a ⊢; split at a <;> split <;> omega
  have hsum := gaps_sum g s (by omega)
  have hAl : (from_ (gap g s) 0 g.length).length = g.length := from_len _ _ _
  generalize from_ (gap g s) 0 g.length = A at hR hAx hA hwor hsum hAl
  obtain ⟨q1, q2, q3⟩ := wsum_is 12 (by omega) g 0 h12 (by omega) (by omega)
  have hWb : W' * (A.length : Int) ≤ 24000 := by
    have : W' * (A.length : Int) ≤ 1000 * (A.length : Int) := Int.mul_le_mul_of_nonneg_right hW.2.1 (by omega)
    omega
  have hWb0 : 0 ≤ W' * (A.length : Int) := Int.mul_nonneg hW.1 (by omega)
  obtain ⟨p1, p2, p3⟩ := wsum_is W' hW.1 A 0 hAx (by omega) (by omega)
  obtain ⟨f1, f2, f3⟩ := wor_fea ok m0
  have hWw : W' ≤ wor g 0 := by
    by_cases c : W' ≤ wor g 0
    · exact c
    · exact absurd f3 (hW.2.2.2 _ f1 (by omega))
  obtain ⟨K3, h3⟩ := Seams_l l1 g w1 ok h7 h12 m W' m0 (by omega) hW s hs s.length 0 (by omega) (by omega) (by omega)
  refine ⟨K1 + K2 + K3 + 1048900, ?_⟩
  unfold laws_FnSeams.f
  rw [hb]; simp only [Option.bind_some]
  cases b with
  | true => rfl
  | false =>
    rw [if_neg (by simp), hg _ (by omega), hm]; simp only [Option.bind_some]
    rw [show impl_LeastWorst.f (K1 + K2 + K3 + 1048900) g m = some (W', 0) from h1 _ (by omega)]; simp only [Option.bind_some]
    rw [show impl_BestShifts.f (K1 + K2 + K3 + 1048900) g m = some (s, 0) from h2 _ (by omega)]; simp only [Option.bind_some]
    rw [ImplGaps_ g s _ (by omega), hR]; simp only [Option.bind_some]
    rw [ImplWorstGap_ A _ (by omega), ImplClosing_ g (by omega) _ (by omega), ImplClosing_ A (by omega) _ (by omega), ImplWorstGap_ g _ (by omega), hA, ok]; simp only [Option.bind_some, if_true]
    rw [if_pos (by omega), hwor]; simp only [if_true]
    rw [a2Sum_ g (by omega) _ (by omega)]; simp only [Option.bind_some, if_true]
    rw [show wsum A 0 = wsum g 0 by omega]; simp only [if_true]
    rw [if_neg (by omega), w64 (n := W' * (g.length : Int)) (by rw [hAl] at hWb0; omega) (by rw [hAl] at hWb; omega), w64 (n := -(wsum g 0)) (by omega) (by omega)]
    have hf : ¬ W' * (g.length : Int) < mx (wsum g 0) (-(wsum g 0)) := by
      rw [hAl] at p2 p3
      unfold mx; split <;> omega
    rw [decide_eq_false hf]
    simp only [laws_FnSeams.j0]
    rw [if_neg (by simp)]
    exact h3 _ (by omega)

end Go.Proofs.Ytcgcmnebenllcaa.Pure
