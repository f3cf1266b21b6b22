/- Bounds between numbers that follow from each other, and the least point that they leave: plain mathematics, no program stands in it. -/
import Derived.Test.YtcgcmnebenllcaaBase
set_option linter.unusedVariables false
set_option linter.unusedSimpArgs false
namespace Go.Proofs.Ytcgcmnebenllcaa.FW
open Go Go.RowKit Go.Proofs.YtcgcmnebenllcaaW.PrintWords Go.Proofs.YtcgcmnebenllcaaW.PrintLast Go.Proofs.YtcgcmnebenllcaaW.PrintMore Go.Proofs.Ytcgcmnebenllcaa.Base

def g2 (M : List (List Int)) (i j : Nat) : Int := (M.getD i []).getD j 0
def s2 (M : List (List Int)) (i j : Nat) (v : Int) : List (List Int) := M.set i ((M.getD i []).set j v)
def upd (M : List (List Int)) (k i j : Nat) : List (List Int) := s2 M i j (mn (g2 M i j) (wrap64 (g2 M i k + g2 M k j)))
def cj (M : List (List Int)) (k i : Nat) : Nat → List (List Int)
  | 0 => M
  | j + 1 => upd (cj M k i j) k i j
def ci (M : List (List Int)) (n k : Nat) : Nat → List (List Int)
  | 0 => M
  | i + 1 => cj (ci M n k i) k i n
def ck (M : List (List Int)) (n : Nat) : Nat → List (List Int)
  | 0 => M
  | k + 1 => ci (ck M n k) n k n

def Sq (M : List (List Int)) (n : Nat) : Prop := M.length = n ∧ ∀ i, i < n → (M.getD i []).length = n

theorem mn_le1 (a b : Int) : mn a b ≤ a := by unfold mn; split <;> omega
theorem mn_le2 (a b : Int) : mn a b ≤ b := by unfold mn; split <;> omega
theorem mn_or (a b : Int) : mn a b = a ∨ mn a b = b := by unfold mn; split <;> simp

theorem getD_set_same {α : Type} (l : List α) (i : Nat) (x z : α) (h : i < l.length) : (l.set i x).getD i z = x := by
  simp [List.getD_eq_getElem?_getD, h]
theorem getD_set_other {α : Type} (l : List α) (i j : Nat) (x z : α) (h : j ≠ i) : (l.set i x).getD j z = l.getD j z := by
  simp [List.getD_eq_getElem?_getD, List.getElem?_set, Ne.symm h]

theorem Sq_s2 {M : List (List Int)} {n : Nat} (h : Sq M n) (i j : Nat) (v : Int) (hi : i < n) : Sq (s2 M i j v) n := by
  refine ⟨by simp [s2, h.1], fun a ha => ?_⟩
  unfold s2
  by_cases e : a = i
  · subst e; rw [getD_set_same _ _ _ _ (by have := h.1; omega)]; simpa using h.2 a ha
  · rw [getD_set_other _ _ _ _ _ e]; exact h.2 a ha
theorem g2_s2 {M : List (List Int)} {n : Nat} (h : Sq M n) (i j : Nat) (v : Int) (hi : i < n) (hj : j < n) (a b : Nat) : g2 (s2 M i j v) a b = if a = i ∧ b = j then v else g2 M a b := by
  unfold g2 s2
  by_cases e : a = i
  · subst e
    rw [getD_set_same _ _ _ _ (by have := h.1; omega)]
    by_cases e2 : b = j
    · subst e2; rw [getD_set_same _ _ _ _ (by have := h.2 a hi; omega)]; simp
    · rw [getD_set_other _ _ _ _ _ e2]; simp [e2]
  · rw [getD_set_other _ _ _ _ _ e]; simp [e]

/-- n rounds of one stage with a diagonal that is not negative. -/
def Part (M X : List (List Int)) (n k i j : Nat) : Prop := Sq X n ∧ ∀ a b, a < n → b < n → g2 X a b = if a < i ∨ (a = i ∧ b < j) then mn (g2 M a b) (g2 M a k + g2 M k b) else g2 M a b

theorem part_step {M X : List (List Int)} {n k i j : Nat} (hk : k < n) (hi : i < n) (hj : j < n) (h0 : 0 ≤ g2 M k k) (hb : ∀ a b, a < n → b < n → -1000000000000000000 ≤ g2 M a b ∧ g2 M a b ≤ 1000000000000000000) (h : Part M X n k i j) : Part M (upd X k i j) n k i (j + 1) := by
  obtain ⟨hs, hx⟩ := h
  refine ⟨Sq_s2 hs _ _ _ hi, fun a b ha hb' => ?_⟩
  unfold upd
  rw [g2_s2 hs _ _ _ hi hj]
  have e1 : g2 X i k = g2 M i k := by
    rw [hx i k hi hk]; unfold mn; split <;> (try split) <;> omega
  have e2 : g2 X k j = g2 M k j := by
    rw [hx k j hk hj]; unfold mn; split <;> (try split) <;> omega
  have e3 : g2 X i j = g2 M i j := by
    rw [hx i j hi hj, if_neg (by omega)]
  by_cases e : a = i ∧ b = j
  · obtain ⟨rfl, rfl⟩ := e
    rw [if_pos ⟨rfl, rfl⟩, if_pos (by omega), e1, e2, e3]
    have := hb a k ha hk; have := hb k b hk hb'
    rw [w64 (by omega) (by omega)]
  · rw [if_neg e, hx a b ha hb']
    by_cases c : a < i ∨ (a = i ∧ b < j)
    · rw [if_pos c, if_pos (by omega)]
    · rw [if_neg c, if_neg (by omega)]
theorem part_cj {M X : List (List Int)} {n k i : Nat} (hk : k < n) (hi : i < n) (h0 : 0 ≤ g2 M k k) (hb : ∀ a b, a < n → b < n → -1000000000000000000 ≤ g2 M a b ∧ g2 M a b ≤ 1000000000000000000) (h : Part M X n k i 0) : ∀ j, j ≤ n → Part M (cj X k i j) n k i j
  | 0, _ => h
  | j + 1, hj => part_step hk hi (by omega) h0 hb (part_cj hk hi h0 hb h j (by omega))
theorem part_ci {M : List (List Int)} {n k : Nat} (hs : Sq M n) (hk : k < n) (h0 : 0 ≤ g2 M k k) (hb : ∀ a b, a < n → b < n → -1000000000000000000 ≤ g2 M a b ∧ g2 M a b ≤ 1000000000000000000) : ∀ i, i ≤ n → Part M (ci M n k i) n k i 0
  | 0, _ => ⟨hs, fun a b ha hb' => by rw [if_neg (by omega)]; rfl⟩
  | i + 1, hi => by
    have := part_cj hk (by omega) h0 hb (part_ci hs hk h0 hb i (by omega)) n (Nat.le_refl _)
    refine ⟨this.1, fun a b ha hb' => ?_⟩
    show g2 (cj (ci M n k i) k i n) a b = _
    rw [this.2 a b ha hb']
    by_cases c : a < i ∨ (a = i ∧ b < n)
    · rw [if_pos c, if_pos (by omega)]
    · rw [if_neg c, if_neg (by omega)]

/-- Whatever the numbers are: the form stays, and no entry grows. -/
theorem upd_low {M X : List (List Int)} {n k i j : Nat} (hi : i < n) (hj : j < n) (h : Sq X n ∧ ∀ a b, g2 X a b ≤ g2 M a b) : Sq (upd X k i j) n ∧ ∀ a b, g2 (upd X k i j) a b ≤ g2 M a b := by
  refine ⟨Sq_s2 h.1 _ _ _ hi, fun a b => ?_⟩
  unfold upd
  rw [g2_s2 h.1 _ _ _ hi hj]
  split
  · rename_i e; obtain ⟨rfl, rfl⟩ := e; exact Int.le_trans (mn_le1 _ _) (h.2 a b)
  · exact h.2 a b
theorem cj_low {M X : List (List Int)} {n k i : Nat} (hi : i < n) (h : Sq X n ∧ ∀ a b, g2 X a b ≤ g2 M a b) : ∀ j, j ≤ n → Sq (cj X k i j) n ∧ ∀ a b, g2 (cj X k i j) a b ≤ g2 M a b
  | 0, _ => h
  | j + 1, hj => upd_low hi (by omega) (cj_low hi h j (by omega))
theorem ci_low {M X : List (List Int)} {n k : Nat} (h : Sq X n ∧ ∀ a b, g2 X a b ≤ g2 M a b) : ∀ i, i ≤ n → Sq (ci X n k i) n ∧ ∀ a b, g2 (ci X n k i) a b ≤ g2 M a b
  | 0, _ => h
  | i + 1, hi => cj_low (by omega) (ci_low h i (by omega)) n (Nat.le_refl _)
theorem ck_low {M X : List (List Int)} {n : Nat} (h : Sq X n ∧ ∀ a b, g2 X a b ≤ g2 M a b) : ∀ k, k ≤ n → Sq (ck X n k) n ∧ ∀ a b, g2 (ck X n k) a b ≤ g2 M a b
  | 0, _ => h
  | k + 1, hk => ci_low (ck_low h k (by omega)) n (Nat.le_refl _)

def Feas (M : List (List Int)) (n : Nat) (s : Nat → Int) : Prop := ∀ a b, a < n → b < n → s b - s a ≤ g2 M a b
def Good (M X : List (List Int)) (n k : Nat) (L : Int) : Prop :=
  (∀ d, d < n → 0 ≤ g2 X d d) ∧ (∀ a b, a < n → b < n → -L ≤ g2 X a b ∧ g2 X a b ≤ 1000000) ∧ (∀ m a b, m < k → a < n → b < n → g2 X a b ≤ g2 X a m + g2 X m b) ∧ (∀ s, Feas M n s → Feas X n s)
def Bad (M X : List (List Int)) (n : Nat) : Prop := (∃ d, d < n ∧ g2 X d d < 0) ∧ ∀ s, ¬ Feas M n s

theorem stage {M X : List (List Int)} {n k : Nat} {L : Int} (hs : Sq X n) (hk : k < n) (hL0 : 1000000 ≤ L) (hL : L ≤ 100000000000000000) (h : Good M X n k L) : Good M (ci X n k n) n (k + 1) (2 * L) ∨ Bad M (ci X n k n) n := by
  obtain ⟨g1, g3, g4, g5⟩ := h
  have hp := part_ci hs hk (g1 k hk) (fun a b ha hb => by have := g3 a b ha hb; omega) n (Nat.le_refl _)
  generalize ci X n k n = Y at hp
  obtain ⟨hsY, hY⟩ := hp
  have hY : ∀ a b, a < n → b < n → g2 Y a b = mn (g2 X a b) (g2 X a k + g2 X k b) := fun a b ha hb => by rw [hY a b ha hb, if_pos (Or.inl ha)]
  have hF : ∀ s, Feas M n s → Feas Y n s := by
    intro s hs a b ha hb
    have f := g5 s hs
    have := f a b ha hb; have := f a k ha hk; have := f k b hk hb
    rw [hY a b ha hb]; unfold mn; split <;> omega
  by_cases hd : ∀ d, d < n → 0 ≤ g2 Y d d
  · refine .inl ⟨hd, fun a b ha hb => ?_, fun m a b hm ha hb => ?_, hF⟩
    · have := g3 a b ha hb; have := g3 a k ha hk; have := g3 k b hk hb
      rw [hY a b ha hb]; unfold mn; split <;> omega
    · have kk := g1 k hk
      by_cases e : m = k
      · subst e
        rw [hY a b ha hb, hY a m ha hk, hY m b hk hb]
        unfold mn; split <;> split <;> split <;> omega
      · have hm : m < k := by omega
        have hmn : m < n := by omega
        rw [hY a b ha hb, hY a m ha hmn, hY m b hmn hb]
        have := g4 m a b hm ha hb; have := g4 m a k hm ha hk; have := g4 m k b hm hk hb; have := g4 m k k hm hk hk
        unfold mn; split <;> split <;> split <;> omega
  · refine .inr ⟨?_, fun s hs => ?_⟩
    · simp only [Classical.not_forall, Int.not_le] at hd
      obtain ⟨d, h1, h2⟩ := hd; exact ⟨d, h1, h2⟩
    · simp only [Classical.not_forall, Int.not_le] at hd
      obtain ⟨d, h1, h2⟩ := hd
      have := hF s hs d d h1 h1; omega

theorem stages {M : List (List Int)} {n : Nat} (hs : Sq M n) (hn : n ≤ 25) (hd : ∀ d, d < n → 0 ≤ g2 M d d) (hb : ∀ a b, a < n → b < n → -1000000 ≤ g2 M a b ∧ g2 M a b ≤ 1000000) : ∀ k, k ≤ n → Good M (ck M n k) n k (1000000 * 2 ^ k) ∨ Bad M (ck M n k) n
  | 0, _ => .inl ⟨hd, fun a b ha hb' => (by have := hb a b ha hb'; show -(1000000 * 2 ^ 0) ≤ g2 M a b ∧ _; exact ⟨by simpa using this.1, this.2⟩), fun m a b hm => by omega, fun s h => h⟩
  | k + 1, hk => by
    have hsk := (ck_low ⟨hs, fun a b => Int.le_refl _⟩ k (by omega) : Sq (ck M n k) n ∧ ∀ a b, g2 (ck M n k) a b ≤ g2 M a b).1
    rcases stages hs hn hd hb k (by omega) with h | h
    · have h25 : (2 : Int) ^ k ≤ 2 ^ 25 := by
        have : (2 : Nat) ^ k ≤ 2 ^ 25 := Nat.pow_le_pow_right (by omega) (by omega)
        exact_mod_cast this
      have h1 : (1 : Int) ≤ 2 ^ k := by
        have : (1 : Nat) ≤ 2 ^ k := Nat.one_le_two_pow
        exact_mod_cast this
      have := stage hsk (by omega) (L := 1000000 * 2 ^ k) (by omega) (by omega) h
      rw [show (1000000 : Int) * 2 ^ (k + 1) = 2 * (1000000 * 2 ^ k) by rw [Int.pow_succ]; omega]
      exact this
    · refine .inr ⟨?_, h.2⟩
      obtain ⟨d, h1, h2⟩ := h.1
      have := (ci_low (M := ck M n k) (k := k) ⟨hsk, fun a b => Int.le_refl _⟩ n (Nat.le_refl _)).2 d d
      exact ⟨d, h1, by show g2 (ci (ck M n k) n k n) d d < 0; omega⟩

/-- What stands behind all stages. -/
theorem closed_ {M : List (List Int)} {n : Nat} (hs : Sq M n) (hn : n ≤ 25) (hd : ∀ d, d < n → 0 ≤ g2 M d d) (hb : ∀ a b, a < n → b < n → -1000000 ≤ g2 M a b ∧ g2 M a b ≤ 1000000) :
    Sq (ck M n n) n ∧ (∀ a b, g2 (ck M n n) a b ≤ g2 M a b) ∧ (((∀ d, d < n → 0 ≤ g2 (ck M n n) d d) ∧ (∀ m a b, m < n → a < n → b < n → g2 (ck M n n) a b ≤ g2 (ck M n n) a m + g2 (ck M n n) m b) ∧ (∀ s, Feas M n s → Feas (ck M n n) n s) ∧ (∀ s, Feas (ck M n n) n s → Feas M n s)) ∨ Bad M (ck M n n) n) := by
  obtain ⟨l1, l2⟩ := ck_low (M := M) (X := M) (n := n) ⟨hs, fun a b => Int.le_refl _⟩ n (Nat.le_refl _)
  refine ⟨l1, l2, ?_⟩
  rcases stages hs hn hd hb n (Nat.le_refl _) with h | h
  · exact .inl ⟨h.1, h.2.2.1, h.2.2.2, fun s hs a b ha hb => Int.le_trans (hs a b ha hb) (l2 a b)⟩
  · exact .inr h
/-- The triangle, and no negative diagonal. -/
def Cl (C : List (List Int)) (N : Nat) : Prop := (∀ d, d < N → 0 ≤ g2 C d d) ∧ ∀ m a b, m < N → a < N → b < N → g2 C a b ≤ g2 C a m + g2 C m b
def lo (C : List (List Int)) (n : Nat) (j : Nat) : Int := -(g2 C j n)
theorem lo_feas {C : List (List Int)} {n : Nat} (h : Cl C (n + 1)) : Feas C (n + 1) (lo C n) := by
  intro a b ha hb
  have := h.2 b a n hb ha (by omega)
  unfold lo; omega
theorem lo_least {C : List (List Int)} {n : Nat} (s : Nat → Int) (h : Feas C (n + 1) s) (j : Nat) (hj : j < n + 1) : lo C n j ≤ s j - s n := by
  have := h j n hj (by omega)
  unfold lo; omega

/-- One step of the best shifts: row n is told the least shift of k, and all bounds follow anew. -/
def bstep (b : List (List Int)) (n k : Nat) : List (List Int) := ck (s2 b n k (wrap64 (-(g2 b k n)))) (n + 1) (n + 1)
def bst (C : List (List Int)) (n : Nat) : Nat → List (List Int)
  | 0 => C
  | k + 1 => bstep (bst C n k) n k
structure BInv (C b : List (List Int)) (n : Nat) : Prop where
  sq : Sq b (n + 1)
  cl : Cl b (n + 1)
  fe : Feas b (n + 1) (lo C n)
  le : ∀ x y, x < n + 1 → y < n + 1 → g2 b x y ≤ g2 C x y
theorem binv_lo {C b : List (List Int)} {n k : Nat} (h0 : g2 C n n = 0) (h : BInv C b n) (hk : k < n) : -(g2 b k n) = lo C n k := by
  have e1 := h.fe k n (by omega) (by omega)
  have e2 : Feas C (n + 1) (lo b n) := fun x y hx hy => Int.le_trans (lo_feas h.cl x y hx hy) (h.le x y hx hy)
  have e3 := lo_least _ e2 k (by omega)
  have e4 := h.cl.1 n (by omega)
  have e5 := h.le n n (by omega) (by omega)
  unfold lo at *; omega
theorem bstep_ {C b : List (List Int)} {n k : Nat} (hn : n + 1 ≤ 25) (h0 : g2 C n n = 0) (hC : ∀ x y, x < n + 1 → y < n + 1 → g2 C x y ≤ 1000000) (hl : ∀ j, j < n + 1 → -50 ≤ lo C n j ∧ lo C n j ≤ 50) (h : BInv C b n) (hk : k < n) : BInv C (bstep b n k) n := by
  have e := binv_lo h0 h hk
  have hlk := hl k (by omega)
  have hlo : lo C n n = 0 := by unfold lo; omega
  unfold bstep
  rw [e, w64 (by omega) (by omega)]
  have hs : Sq (s2 b n k (lo C n k)) (n + 1) := Sq_s2 h.sq _ _ _ (by omega)
  have hg : ∀ x y, g2 (s2 b n k (lo C n k)) x y = if x = n ∧ y = k then lo C n k else g2 b x y := fun x y => g2_s2 h.sq _ _ _ (by omega) (by omega) x y
  generalize s2 b n k (lo C n k) = X at hs hg
  have hle : ∀ x y, x < n + 1 → y < n + 1 → g2 X x y ≤ g2 b x y := by
    intro x y hx hy
    rw [hg]
    split
    · rename_i q; obtain ⟨rfl, rfl⟩ := q
      have := h.fe x y (by omega) (by omega); omega
    · omega
  have hfX : Feas X (n + 1) (lo C n) := by
    intro x y hx hy
    rw [hg]
    split
    · rename_i q; obtain ⟨rfl, rfl⟩ := q; omega
    · exact h.fe x y hx hy
  obtain ⟨c1, c2, c3⟩ := closed_ hs hn (fun d hd => by have := hfX d d hd hd; omega) (fun x y hx hy => by
    have := hfX x y hx hy; have := hle x y hx hy; have := h.le x y hx hy; have := hC x y hx hy; have := hl x hx; have := hl y hy
    omega)
  rcases c3 with ⟨d1, d2, d3, d4⟩ | c3
  · exact ⟨c1, ⟨d1, d2⟩, d3 _ hfX, fun x y hx hy => by have := c2 x y; have := hle x y hx hy; have := h.le x y hx hy; omega⟩
  · exact absurd hfX (c3.2 _)
theorem bst_ {C : List (List Int)} {n : Nat} (hn : n + 1 ≤ 25) (hs : Sq C (n + 1)) (hc : Cl C (n + 1)) (h0 : g2 C n n = 0) (hC : ∀ x y, x < n + 1 → y < n + 1 → g2 C x y ≤ 1000000) (hl : ∀ j, j < n + 1 → -50 ≤ lo C n j ∧ lo C n j ≤ 50) : ∀ k, k ≤ n → BInv C (bst C n k) n
  | 0, _ => ⟨hs, hc, lo_feas hc, fun x y _ _ => Int.le_refl _⟩
  | k + 1, hk => bstep_ hn h0 hC hl (bst_ hn hs hc h0 hC hl k (by omega)) (by omega)

/-! The bounds of seams. -/
def b1 (M : List (List Int)) (n : Nat) (ν : Nat → Nat) (gp : Int) (w most : Int) (k : Nat) : List (List Int) :=
  let M1 := s2 M k (ν k) (mn (g2 M k (ν k)) (wrap64 (w - gp)))
  let M2 := s2 M1 (ν k) k (mn (g2 M1 (ν k) k) (wrap64 (w + gp)))
  s2 (s2 (s2 M2 n k most) k n most) k k 0
structure Ent (X : List (List Int)) (n : Nat) (ν : Nat → Nat) (g : Nat → Int) (w most : Int) (k : Nat) : Prop where
  sq : Sq X (n + 1)
  r : ∀ b, b < n → g2 X n b = if b < k then most else 1000000
  c : ∀ a, a < n → g2 X a n = if a < k then most else 1000000
  d : ∀ a, a < n → g2 X a a = if a < k then 0 else 1000000
  e : g2 X n n = 1000000
  u : ∀ a b, a < n → b < n → a ≠ b → g2 X a b ≤ 1000000 ∧ (ν a = b → a < k → g2 X a b ≤ w - g a) ∧ (ν b = a → b < k → g2 X a b ≤ w + g b) ∧ (g2 X a b = 1000000 ∨ (ν a = b ∧ a < k ∧ g2 X a b = w - g a) ∨ (ν b = a ∧ b < k ∧ g2 X a b = w + g b))
theorem b1_sq {M : List (List Int)} {n : Nat} {ν : Nat → Nat} (gp w most : Int) {k : Nat} (h : Sq M (n + 1)) (hk : k < n) (hν : ν k < n) : Sq (b1 M n ν gp w most k) (n + 1) := by
  unfold b1
  exact Sq_s2 (Sq_s2 (Sq_s2 (Sq_s2 (Sq_s2 h _ _ _ (by omega)) _ _ _ (by omega)) _ _ _ (by omega)) _ _ _ (by omega)) _ _ _ (by omega)
theorem b1_g2 {M : List (List Int)} {n : Nat} {ν : Nat → Nat} (gp w most : Int) {k : Nat} (h : Sq M (n + 1)) (hk : k < n) (hν : ν k < n) (hνk : ν k ≠ k) (hw : -1000000 ≤ w - gp ∧ w - gp ≤ 1000000 ∧ -1000000 ≤ w + gp ∧ w + gp ≤ 1000000) (a b : Nat) :
    g2 (b1 M n ν gp w most k) a b = if a = k ∧ b = k then 0 else if a = k ∧ b = n then most else if a = n ∧ b = k then most else if a = ν k ∧ b = k then mn (g2 M (ν k) k) (w + gp) else if a = k ∧ b = ν k then mn (g2 M k (ν k)) (w - gp) else g2 M a b := by
  have h1 := Sq_s2 h k (ν k) (mn (g2 M k (ν k)) (wrap64 (w - gp))) (by omega)
  have h2 := Sq_s2 h1 (ν k) k (mn (g2 (s2 M k (ν k) (mn (g2 M k (ν k)) (wrap64 (w - gp)))) (ν k) k) (wrap64 (w + gp))) (by omega)
  have h3 := Sq_s2 h2 n k most (by omega)
  have h4 := Sq_s2 h3 k n most (by omega)
  unfold b1
  simp only []
  rw [g2_s2 h4 _ _ _ (by omega) (by omega), g2_s2 h3 _ _ _ (by omega) (by omega), g2_s2 h2 _ _ _ (by omega) (by omega), g2_s2 h1 _ _ _ (by omega) (by omega), g2_s2 h _ _ _ (by omega) (by omega) (ν k) k, g2_s2 h _ _ _ (by omega) (by omega) a b, w64 (by omega) (by omega), w64 (by omega) (by omega)]
  rw [if_neg (by omega : ¬ (ν k = k ∧ k = ν k))]
theorem b1_ent {X : List (List Int)} {n : Nat} {ν : Nat → Nat} {g : Nat → Int} {w most : Int} {k : Nat} (hν : ∀ a, a < n → ν a < n ∧ ν a ≠ a) (hw : ∀ a, a < n → -1000000 ≤ w - g a ∧ w - g a ≤ 1000000 ∧ -1000000 ≤ w + g a ∧ w + g a ≤ 1000000) (hk : k < n) (h : Ent X n ν g w most k) : Ent (b1 X n ν (g k) w most k) n ν g w most (k + 1) := by
  have hg := fun a b => b1_g2 (g k) w most h.sq hk (hν k hk).1 (hν k hk).2 (hw k hk) a b
  have hνk := hν k hk
  refine ⟨b1_sq _ _ _ h.sq hk hνk.1, fun b hb => ?_, fun a ha => ?_, fun a ha => ?_, ?_, fun a b ha hb hne => ?_⟩
  · rw [hg, h.r b hb]
    by_cases e : b = k
    · subst e; rw [if_neg (by omega), if_neg (by omega), if_pos ⟨rfl, rfl⟩, if_pos (by omega)]
    · rw [if_neg (by omega), if_neg (by omega), if_neg (by omega), if_neg (by omega), if_neg (by omega)]
      by_cases c : b < k
      · rw [if_pos c, if_pos (by omega)]
      · rw [if_neg c, if_neg (by omega)]
  · rw [hg, h.c a ha]
    by_cases e : a = k
    · subst e; rw [if_neg (by omega), if_pos ⟨rfl, rfl⟩, if_pos (by omega)]
    · rw [if_neg (by omega), if_neg (by omega), if_neg (by omega), if_neg (by omega), if_neg (by omega)]
      by_cases c : a < k
      · rw [if_pos c, if_pos (by omega)]
      · rw [if_neg c, if_neg (by omega)]
  · rw [hg, h.d a ha]
    by_cases e : a = k
    · subst e; rw [if_pos ⟨rfl, rfl⟩, if_pos (by omega)]
    · rw [if_neg (by omega), if_neg (by omega), if_neg (by omega), if_neg (by omega), if_neg (by omega)]
      by_cases c : a < k
      · rw [if_pos c, if_pos (by omega)]
      · rw [if_neg c, if_neg (by omega)]
  · rw [hg, if_neg (by omega), if_neg (by omega), if_neg (by omega), if_neg (by omega), if_neg (by omega)]; exact h.e
  · have hh := h.u a b ha hb hne
    have q1 := mn_le1 (g2 X (ν k) k) (w + g k); have q2 := mn_le2 (g2 X (ν k) k) (w + g k); have q3 := mn_or (g2 X (ν k) k) (w + g k)
    have q4 := mn_le1 (g2 X k (ν k)) (w - g k); have q5 := mn_le2 (g2 X k (ν k)) (w - g k); have q6 := mn_or (g2 X k (ν k)) (w - g k)
    rw [hg, if_neg (by omega), if_neg (by omega), if_neg (by omega)]
    by_cases c1 : a = ν k ∧ b = k
    · obtain ⟨rfl, rfl⟩ := c1
      rw [if_pos ⟨rfl, rfl⟩]
      refine ⟨by omega, fun q r => ?_, fun _ _ => q2, ?_⟩
      · have := hh.2.1 q (by omega); omega
      · rcases q3 with q3 | q3
        · rw [q3]; rcases hh.2.2.2 with z | ⟨z1, z2, z3⟩ | ⟨z1, z2, z3⟩
          · exact .inl z
          · exact .inr (.inl ⟨z1, by omega, z3⟩)
          · exact .inr (.inr ⟨z1, by omega, z3⟩)
        · exact .inr (.inr ⟨rfl, by omega, q3⟩)
    · rw [if_neg c1]
      by_cases c2 : a = k ∧ b = ν k
      · obtain ⟨rfl, rfl⟩ := c2
        rw [if_pos ⟨rfl, rfl⟩]
        refine ⟨by omega, fun _ _ => q5, fun q r => ?_, ?_⟩
        · have := hh.2.2.1 q (by omega); omega
        · rcases q6 with q6 | q6
          · rw [q6]; rcases hh.2.2.2 with z | ⟨z1, z2, z3⟩ | ⟨z1, z2, z3⟩
            · exact .inl z
            · exact .inr (.inl ⟨z1, by omega, z3⟩)
            · exact .inr (.inr ⟨z1, by omega, z3⟩)
          · exact .inr (.inl ⟨rfl, by omega, q6⟩)
      · rw [if_neg c2]
        refine ⟨hh.1, fun q r => ?_, fun q r => ?_, ?_⟩
        · by_cases e : a = k
          · subst e; exact absurd ⟨rfl, q.symm⟩ c2
          · exact hh.2.1 q (by omega)
        · by_cases e : b = k
          · subst e; exact absurd ⟨q.symm, rfl⟩ c1
          · exact hh.2.2.1 q (by omega)
        · rcases hh.2.2.2 with z | ⟨z1, z2, z3⟩ | ⟨z1, z2, z3⟩
          · exact .inl z
          · exact .inr (.inl ⟨z1, by omega, z3⟩)
          · exact .inr (.inr ⟨z1, by omega, z3⟩)
def bk (n : Nat) (ν : Nat → Nat) (g : Nat → Int) (w most : Int) : Nat → List (List Int)
  | 0 => List.replicate (n + 1) (List.replicate (n + 1) 1000000)
  | k + 1 => b1 (bk n ν g w most k) n ν (g k) w most k
theorem getD_rep {α : Type} (n i : Nat) (x z : α) (h : i < n) : (List.replicate n x).getD i z = x := by
  simp [List.getD_eq_getElem?_getD, List.getElem?_replicate, h]
theorem bk_ent (n : Nat) (ν : Nat → Nat) (g : Nat → Int) (w most : Int) (hν : ∀ a, a < n → ν a < n ∧ ν a ≠ a) (hw : ∀ a, a < n → -1000000 ≤ w - g a ∧ w - g a ≤ 1000000 ∧ -1000000 ≤ w + g a ∧ w + g a ≤ 1000000) : ∀ k, k ≤ n → Ent (bk n ν g w most k) n ν g w most k
  | 0, _ => by
    have hg : ∀ a b, a < n + 1 → b < n + 1 → g2 (bk n ν g w most 0) a b = 1000000 := by
      intro a b ha hb
      unfold g2 bk
      rw [getD_rep _ _ _ _ ha, getD_rep _ _ _ _ hb]
    refine ⟨⟨by simp [bk], fun i hi => ?_⟩, fun b hb => ?_, fun b hb => ?_, fun b hb => ?_, hg _ _ (by omega) (by omega), fun a b ha hb _ => ?_⟩
    · unfold bk; rw [getD_rep _ _ _ _ hi]; simp
    · rw [hg _ _ (by omega) (by omega)]; simp
    · rw [hg _ _ (by omega) (by omega)]; simp
    · rw [hg _ _ (by omega) (by omega)]; simp
    · rw [hg _ _ (by omega) (by omega)]; exact ⟨by omega, fun _ h => by omega, fun _ h => by omega, .inl rfl⟩
  | k + 1, hk => b1_ent hν hw (by omega) (bk_ent n ν g w most hν hw k (by omega))
theorem bk_sq (n : Nat) (ν : Nat → Nat) (g : Nat → Int) (w most : Int) (hν : ∀ a, a < n → ν a < n) : ∀ k, k ≤ n → Sq (bk n ν g w most k) (n + 1)
  | 0, _ => by
    refine ⟨by simp [bk], fun i hi => ?_⟩
    unfold bk; rw [getD_rep _ _ _ _ hi]; simp
  | k + 1, hk => b1_sq _ _ _ (bk_sq n ν g w most hν k (by omega)) (by omega) (hν k (by omega))
def bf (n : Nat) (ν : Nat → Nat) (g : Nat → Int) (w most : Int) : List (List Int) := s2 (bk n ν g w most n) n n 0
/-- The seams' own words: numbers from -most to most (against number n), and all gaps from -w to w. -/
def Cyc (n : Nat) (ν : Nat → Nat) (g : Nat → Int) (w most : Int) (s : Nat → Int) : Prop := ∀ k, k < n → -most ≤ s k ∧ s k ≤ most ∧ -w ≤ g k + s (ν k) - s k ∧ g k + s (ν k) - s k ≤ w
theorem bf_ (n : Nat) (ν : Nat → Nat) (g : Nat → Int) (w most : Int) (hm : 0 ≤ most) (hm2 : most ≤ 50) (hν : ∀ a, a < n → ν a < n ∧ ν a ≠ a) (hw : ∀ a, a < n → -1000000 ≤ w - g a ∧ w - g a ≤ 1000000 ∧ -1000000 ≤ w + g a ∧ w + g a ≤ 1000000) :
    Sq (bf n ν g w most) (n + 1) ∧ (∀ d, d < n + 1 → g2 (bf n ν g w most) d d = 0) ∧ (∀ a b, a < n + 1 → b < n + 1 → -1000000 ≤ g2 (bf n ν g w most) a b ∧ g2 (bf n ν g w most) a b ≤ 1000000) ∧ ∀ s, Feas (bf n ν g w most) (n + 1) s ↔ Cyc n ν g w most (fun k => s k - s n) := by
  have E := bk_ent n ν g w most hν hw n (Nat.le_refl _)
  have hg : ∀ a b, g2 (bf n ν g w most) a b = if a = n ∧ b = n then 0 else g2 (bk n ν g w most n) a b := fun a b => g2_s2 E.sq _ _ _ (by omega) (by omega) a b
  have hu : ∀ a b, a < n → b < n → a ≠ b → -1000000 ≤ g2 (bk n ν g w most n) a b ∧ g2 (bk n ν g w most n) a b ≤ 1000000 := by
    intro a b ha hb hne
    have := E.u a b ha hb hne
    rcases this.2.2.2 with z | ⟨z1, z2, z3⟩ | ⟨z1, z2, z3⟩
    · omega
    · have := hw a ha; omega
    · have := hw b hb; omega
  refine ⟨Sq_s2 E.sq _ _ _ (by omega), fun d hd => ?_, fun a b ha hb => ?_, fun s => ⟨fun h k hk => ?_, fun h a b ha hb => ?_⟩⟩
  · rw [hg]
    by_cases e : d = n
    · rw [if_pos ⟨e, e⟩]
    · rw [if_neg (by omega), E.d d (by omega), if_pos (by omega)]
  · rw [hg]
    by_cases e : a = n
    · by_cases e2 : b = n
      · rw [if_pos ⟨e, e2⟩]; omega
      · rw [if_neg (by omega), e, E.r b (by omega), if_pos (by omega)]; omega
    · rw [if_neg (by omega)]
      by_cases e2 : b = n
      · rw [e2, E.c a (by omega), if_pos (by omega)]; omega
      · by_cases e3 : a = b
        · rw [← e3, E.d a (by omega), if_pos (by omega)]; omega
        · exact hu a b (by omega) (by omega) e3
  · have h1 := h n k (by omega) (by omega)
    have h2 := h k n (by omega) (by omega)
    have hνk := hν k hk
    have h3 := h k (ν k) (by omega) (by omega)
    have h4 := h (ν k) k (by omega) (by omega)
    rw [hg, if_neg (by omega)] at h1 h2 h3 h4
    rw [E.r k hk, if_pos hk] at h1
    rw [E.c k hk, if_pos hk] at h2
    have u1 := (E.u k (ν k) hk hνk.1 (Ne.symm hνk.2)).2.1 rfl hk
    have u2 := (E.u (ν k) k hνk.1 hk hνk.2).2.2.1 rfl hk
    simp only []
    omega
  · rw [hg]
    by_cases e : a = n
    · by_cases e2 : b = n
      · rw [if_pos ⟨e, e2⟩]; subst e; subst e2; omega
      · have := h b (by omega)
        rw [if_neg (by omega), e, E.r b (by omega), if_pos (by omega)]; simp only [] at this; omega
    · rw [if_neg (by omega)]
      have q := h a (by omega)
      simp only [] at q
      by_cases e2 : b = n
      · rw [e2, E.c a (by omega), if_pos (by omega)]; omega
      · have q2 := h b (by omega)
        simp only [] at q2
        by_cases e3 : a = b
        · rw [← e3, E.d a (by omega), if_pos (by omega)]; omega
        · rcases (E.u a b (by omega) (by omega) e3).2.2.2 with z | ⟨z1, z2, z3⟩ | ⟨z1, z2, z3⟩
          · omega
          · rw [z1] at q; omega
          · rw [z1] at q2; omega
theorem cyc_congr {n : Nat} {ν : Nat → Nat} {g : Nat → Int} {w most : Int} {s t : Nat → Int} (hν : ∀ a, a < n → ν a < n ∧ ν a ≠ a) (h : ∀ k, k < n → s k = t k) (hs : Cyc n ν g w most s) : Cyc n ν g w most t := by
  intro k hk
  have := hs k hk
  rw [h k hk, h _ (hν k hk).1] at this
  exact this
structure Seams (n : Nat) (ν : Nat → Nat) (g : Nat → Int) (most : Int) : Prop where
  n1 : 2 ≤ n
  n2 : n ≤ 24
  m1 : 0 ≤ most
  m2 : most ≤ 50
  gb : ∀ k, k < n → -1000 ≤ g k ∧ g k ≤ 1000
  nu : ∀ a, a < n → ν a < n ∧ ν a ≠ a
def cb (n : Nat) (ν : Nat → Nat) (g : Nat → Int) (w most : Int) : List (List Int) := ck (bf n ν g w most) (n + 1) (n + 1)
/-- All bounds followed: a point is there just if no number of the diagonal is negative, and then they have a least point. -/
theorem cb_ {n : Nat} {ν : Nat → Nat} {g : Nat → Int} {most : Int} (S : Seams n ν g most) (w : Int) (w0 : 0 ≤ w) (w1 : w ≤ 1000) :
    Sq (cb n ν g w most) (n + 1) ∧ ((∃ s, Cyc n ν g w most s) ↔ ∀ d, d < n + 1 → 0 ≤ g2 (cb n ν g w most) d d) ∧
    ((∃ s, Cyc n ν g w most s) → Cyc n ν g w most (lo (cb n ν g w most) n) ∧ (∀ s, Cyc n ν g w most s → ∀ k, k < n → lo (cb n ν g w most) n k ≤ s k) ∧ ∀ k, k ≤ n → BInv (cb n ν g w most) (bst (cb n ν g w most) n k) n ∧ (k < n → wrap64 (-(g2 (bst (cb n ν g w most) n k) k n)) = lo (cb n ν g w most) n k)) := by
  obtain ⟨b1, b2, b3, b4⟩ := bf_ n ν g w most S.m1 S.m2 S.nu (fun a ha => by have := S.gb a ha; omega)
  obtain ⟨c1, c2, c3⟩ := closed_ (n := n + 1) b1 (by have := S.n2; omega) (fun d hd => by rw [b2 d hd]; omega) b3
  have hfe : ∀ s, Cyc n ν g w most s → Feas (bf n ν g w most) (n + 1) (fun k => if k = n then 0 else s k) := by
    intro s hs
    rw [b4]
    refine cyc_congr S.nu (fun k hk => ?_) hs
    show s k = (if k = n then 0 else s k) - (if n = n then 0 else s n)
    rw [if_neg (by omega), if_pos rfl]; omega
  have hcy : ∀ s, Feas (ck (bf n ν g w most) (n + 1) (n + 1)) (n + 1) s → Cyc n ν g w most (fun k => s k - s n) := fun s hs => (b4 s).1 (fun x y hx hy => Int.le_trans (hs x y hx hy) (c2 x y))
  have hiff : (∃ s, Cyc n ν g w most s) ↔ ∀ d, d < n + 1 → 0 ≤ g2 (cb n ν g w most) d d := by
    constructor
    · rintro ⟨s, hs⟩
      rcases c3 with c3 | c3
      · exact c3.1
      · exact absurd (hfe s hs) (c3.2 _)
    · intro hd
      rcases c3 with ⟨d1, d2, d3, d4⟩ | c3
      · exact ⟨_, hcy _ (lo_feas ⟨d1, d2⟩)⟩
      · obtain ⟨d, q1, q2⟩ := c3.1
        have := hd d q1
        unfold cb at this; omega
  refine ⟨c1, hiff, fun hex => ?_⟩
  have hd := hiff.1 hex
  unfold cb at hd ⊢
  rcases c3 with ⟨d1, d2, d3, d4⟩ | c3
  · have h00 : g2 (ck (bf n ν g w most) (n + 1) (n + 1)) n n = 0 := by
      have := c2 n n; have := b2 n (by omega); have := d1 n (by omega); omega
    have hlo0 : lo (ck (bf n ν g w most) (n + 1) (n + 1)) n n = 0 := by unfold lo; omega
    have hC : Cyc n ν g w most (lo (ck (bf n ν g w most) (n + 1) (n + 1)) n) := by
      refine cyc_congr S.nu (fun k hk => ?_) (hcy _ (lo_feas ⟨d1, d2⟩))
      (try simp only []); omega
    have hb := bst_ (C := ck (bf n ν g w most) (n + 1) (n + 1)) (n := n) (by have := S.n2; omega) c1 ⟨d1, d2⟩ h00 (fun x y hx hy => Int.le_trans (c2 x y) (b3 x y hx hy).2) (fun j hj => by
      by_cases e : j = n
      · rw [e, hlo0]; omega
      · have := hC j (by omega); have := S.m2; omega)
    refine ⟨hC, fun s hs k hk => ?_, fun k hk => ⟨hb k hk, fun hk2 => ?_⟩⟩
    · have := lo_least _ (d3 _ (hfe s hs)) k (by omega)
      rw [if_neg (by omega), if_pos rfl] at this; omega
    · have e := binv_lo h00 (hb k hk) hk2
      have := hC k hk2; have := S.m2
      rw [e, w64 (by omega) (by omega)]
  · obtain ⟨d, q1, q2⟩ := c3.1
    have := hd d q1
    omega

/-- From number n - d on, behind which stands the first one again. -/
def CanN (n : Nat) (g : Nat → Int) (w most first : Int) : Nat → Int → Prop
  | 0, x => x = first
  | d + 1, x => ∃ y, -most ≤ y ∧ y ≤ most ∧ -w ≤ g (n - (d + 1)) + y - x ∧ g (n - (d + 1)) + y - x ≤ w ∧ CanN n g w most first d y
theorem canN_iff (n : Nat) (g : Nat → Int) (w most first : Int) : ∀ d x, d ≤ n → (CanN n g w most first d x ↔ ∃ s : Nat → Int, s (n - d) = x ∧ s n = first ∧ ∀ i, n - d ≤ i → i < n → -most ≤ s (i + 1) ∧ s (i + 1) ≤ most ∧ -w ≤ g i + s (i + 1) - s i ∧ g i + s (i + 1) - s i ≤ w)
  | 0, x, _ => by
    constructor
    · intro h; refine ⟨fun _ => x, rfl, h, fun i h1 h2 => by omega⟩
    · rintro ⟨s, h1, h2, _⟩; rw [Nat.sub_zero] at h1; show x = first; omega
  | d + 1, x, hd => by
    constructor
    · rintro ⟨y, y1, y2, y3, y4, hy⟩
      obtain ⟨s, s1, s2, s3⟩ := (canN_iff n g w most first d y (by omega)).1 hy
      refine ⟨fun i => if i ≤ n - (d + 1) then x else s i, by simp, by simp only []; rw [if_neg (by omega)]; exact s2, fun i h1 h2 => ?_⟩
      simp only []
      rw [if_neg (by omega : ¬ i + 1 ≤ n - (d + 1))]
      by_cases e : i = n - (d + 1)
      · rw [if_pos (by omega), show i + 1 = n - d by omega, s1, e]; exact ⟨y1, y2, y3, y4⟩
      · rw [if_neg (by omega)]; exact s3 i (by omega) h2
    · rintro ⟨s, s1, s2, s3⟩
      have h := s3 (n - (d + 1)) (Nat.le_refl _) (by omega)
      rw [s1, show n - (d + 1) + 1 = n - d by omega] at h
      exact ⟨s (n - d), h.1, h.2.1, h.2.2.1, h.2.2.2, (canN_iff n g w most first d _ (by omega)).2 ⟨s, rfl, s2, fun i h1 h2 => s3 i (by omega) h2⟩⟩
def nx (n k : Nat) : Nat := (k + 1) % n
theorem nx_ (n k : Nat) (h : k < n) : nx n k = if k + 1 = n then 0 else k + 1 := by
  unfold nx
  by_cases e : k + 1 = n
  · rw [if_pos e, e, Nat.mod_self]
  · rw [if_neg e, Nat.mod_eq_of_lt (by omega)]
theorem nx_ok (n : Nat) (h : 2 ≤ n) : ∀ a, a < n → nx n a < n ∧ nx n a ≠ a := by
  intro a ha; rw [nx_ n a ha]; split <;> omega
/-- The first one's number stands if all are within the bound. -/
theorem can_first (n : Nat) (hn : 2 ≤ n) (g : Nat → Int) (w most f : Int) (h1 : -most ≤ f) (h2 : f ≤ most) : CanN n g w most f n f ↔ ∃ s, Cyc n (nx n) g w most s ∧ s 0 = f := by
  rw [canN_iff n g w most f n f (Nat.le_refl _), Nat.sub_self]
  constructor
  · rintro ⟨s, s1, s2, s3⟩
    refine ⟨s, fun k hk => ?_, s1⟩
    have a := s3 k (by omega) hk
    have r : -most ≤ s k ∧ s k ≤ most := by
      by_cases e : k = 0
      · rw [e, s1]; exact ⟨h1, h2⟩
      · have := s3 (k - 1) (by omega) (by omega)
        rw [show k - 1 + 1 = k by omega] at this; exact ⟨this.1, this.2.1⟩
    rw [nx_ n k hk]
    by_cases e : k + 1 = n
    · rw [if_pos e, s1]; rw [e, s2] at a; exact ⟨r.1, r.2, a.2.2⟩
    · rw [if_neg e]; exact ⟨r.1, r.2, a.2.2⟩
  · rintro ⟨s, hs, s0⟩
    refine ⟨fun i => if i = n then f else s i, by simp only []; rw [if_neg (by omega)]; exact s0, by simp, fun i _ hi => ?_⟩
    have a := hs i hi
    simp only []
    rw [if_neg (by omega : ¬ i = n)]
    rw [nx_ n i hi] at a
    by_cases e : i + 1 = n
    · rw [if_pos e]; rw [if_pos e, s0] at a; exact ⟨h1, h2, a.2.2⟩
    · rw [if_neg e]; rw [if_neg e] at a
      have b := hs (i + 1) (by omega)
      exact ⟨b.1, b.2.1, a.2.2⟩
/-- The least point is what the reference picks one after the other. -/
theorem can_least (n : Nat) (hn : 2 ≤ n) (g : Nat → Int) (w most : Int) (l : Nat → Int) (hl : Cyc n (nx n) g w most l) (hm : ∀ s, Cyc n (nx n) g w most s → ∀ k, k < n → l k ≤ s k) (j : Nat) (j1 : 1 ≤ j) (j2 : j < n) :
    CanN n g w most (l 0) (n - j) (l j) ∧ (-most ≤ l j ∧ l (j - 1) - g (j - 1) - w ≤ l j ∧ l j ≤ most) ∧ ∀ x, -most ≤ x → l (j - 1) - g (j - 1) - w ≤ x → CanN n g w most (l 0) (n - j) x → l j ≤ x := by
  have e0 : n - (n - j) = j := by omega
  have r := hl j j2
  have r1 := hl (j - 1) (by omega)
  rw [nx_ n (j - 1) (by omega), if_neg (by omega), show j - 1 + 1 = j by omega] at r1
  refine ⟨?_, ⟨r.1, by omega, r.2.1⟩, fun x x1 x2 hx => ?_⟩
  · rw [canN_iff _ _ _ _ _ _ _ (by omega), e0]
    refine ⟨fun i => if i = n then l 0 else l i, by simp only []; rw [if_neg (by omega)], by simp, fun i h1 hi => ?_⟩
    have a := hl i hi
    simp only []
    rw [if_neg (by omega : ¬ i = n)]
    rw [nx_ n i hi] at a
    by_cases e : i + 1 = n
    · rw [if_pos e]; rw [if_pos e] at a
      have b := hl 0 (by omega); exact ⟨b.1, b.2.1, a.2.2⟩
    · rw [if_neg e]; rw [if_neg e] at a
      have b := hl (i + 1) (by omega); exact ⟨b.1, b.2.1, a.2.2⟩
  · rw [canN_iff _ _ _ _ _ _ _ (by omega), e0] at hx
    obtain ⟨s, s1, s2, s3⟩ := hx
    by_cases hlt : l j ≤ x
    · exact hlt
    have hc : Cyc n (nx n) g w most (fun i => if i < j then l i else s i) := by
      intro k hk
      simp only []
      rw [nx_ n k hk]
      by_cases c : k < j
      · rw [if_pos c]
        have a := hl k hk
        rw [nx_ n k hk] at a
        rw [if_neg (by omega : ¬ k + 1 = n)] at a ⊢
        by_cases c2 : k + 1 < j
        · rw [if_pos c2]; exact a
        · rw [if_neg c2, show k + 1 = j by omega, s1]
          have e : k = j - 1 := by omega
          subst e
          exact ⟨a.1, a.2.1, by omega, by omega⟩
      · rw [if_neg c]
        have a := s3 k (by omega) hk
        have q : -most ≤ s k ∧ s k ≤ most := by
          by_cases e : k = j
          · rw [e, s1]; omega
          · have := s3 (k - 1) (by omega) (by omega)
            rw [show k - 1 + 1 = k by omega] at this; exact ⟨this.1, this.2.1⟩
        by_cases e : k + 1 = n
        · rw [if_pos e, if_pos (by omega)]; rw [e, s2] at a; exact ⟨q.1, q.2, a.2.2⟩
        · rw [if_neg e, if_neg (by omega)]; exact ⟨q.1, q.2, a.2.2⟩
    have := hm _ hc j j2
    simp only [if_neg (Nat.lt_irrefl _)] at this
    omega

end Go.Proofs.Ytcgcmnebenllcaa.FW
