/- For all gaps and greatest shifts the program's BestShifts answers as the reference's does, leaves the gaps as they are, and gives each caller shifts of its own. No condition. -/
import Derived.Test.YtcgcmnebenllcaaQFnExactBestShiftsx6
import Derived.Test.YtcgcmnebenllcaaBase
import Derived.Test.YtcgcmnebenllcaaFW
namespace Go.Proofs.Ytcgcmnebenllcaa.Pure
open Go Go.RowKit Go.Proofs.Ytcgcmnebenllcaa.QFnExactBestShifts Go.Proofs.YtcgcmnebenllcaaW.PrintWords Go.Proofs.YtcgcmnebenllcaaW.PrintLast Go.Proofs.YtcgcmnebenllcaaW.PrintMore Go.Proofs.Ytcgcmnebenllcaa.Base
set_option linter.unusedVariables false
set_option linter.unusedSimpArgs false

/-- From some number of rounds on the answer is r. -/
def Ev {α : Type} (g : Nat → Option α) (r : α) : Prop := ∃ K, ∀ k, K ≤ k → g k = some r
theorem Ev.step {α : Type} {g h : Nat → Option α} {r : α} (e : ∀ k, g (k + 1) = h k) (hr : Ev h r) : Ev g r := by
  obtain ⟨K, hK⟩ := hr
  refine ⟨K + 1, fun k hk => ?_⟩
  obtain ⟨k, rfl⟩ : ∃ m, k = m + 1 := ⟨k - 1, by omega⟩
  rw [e]; exact hK k (by omega)
theorem Ev.now {α : Type} {g : Nat → Option α} {r : α} (e : ∀ k, g (k + 1) = some r) : Ev g r := Ev.step (h := fun _ => some r) e ⟨0, fun _ _ => rfl⟩
theorem Ev.bind {α β : Type} {c : Nat → Option α} {f : Nat → α → Option β} {t : α} {r : β} (hc : Ev c t) (hf : Ev (fun k => f k t) r) : Ev (fun k => (c k).bind (f k)) r := by
  obtain ⟨K, hK⟩ := hc
  obtain ⟨L, hL⟩ := hf
  exact ⟨K + L, fun k hk => by show (c k).bind (f k) = some r; rw [hK k (by omega)]; exact hL k (by omega)⟩
theorem Ev.eq {α : Type} {g h : Nat → Option α} {r : α} (e : ∀ k, g k = h k) (hr : Ev h r) : Ev g r := by
  obtain ⟨K, hK⟩ := hr
  exact ⟨K, fun k hk => by rw [e]; exact hK k hk⟩

/-- From some number of rounds on there is an answer, one that is as told. -/
def EvP {α : Type} (g : Nat → Option α) (Q : α → Prop) : Prop := ∃ r, Q r ∧ Ev g r
theorem EvP.step {α : Type} {g h : Nat → Option α} {Q : α → Prop} (e : ∀ k, g (k + 1) = h k) (hr : EvP h Q) : EvP g Q := by
  obtain ⟨r, hq, hr⟩ := hr
  exact ⟨r, hq, Ev.step e hr⟩
theorem EvP.eq {α : Type} {g h : Nat → Option α} {Q : α → Prop} (e : ∀ k, g k = h k) (hr : EvP h Q) : EvP g Q := by
  obtain ⟨r, hq, hr⟩ := hr
  exact ⟨r, hq, Ev.eq e hr⟩
theorem EvP.bind {α β : Type} {c : Nat → Option α} {f : Nat → α → Option β} {P : α → Prop} {Q : β → Prop} (hc : EvP c P) (hf : ∀ t, P t → EvP (fun k => f k t) Q) : EvP (fun k => (c k).bind (f k)) Q := by
  obtain ⟨t, hp, hc⟩ := hc
  obtain ⟨r, hq, hr⟩ := hf t hp
  exact ⟨r, hq, Ev.bind hc hr⟩

def okS (l : List Int) : Bool := decide (2 ≤ (l.length : Int) ∧ (l.length : Int) ≤ 24) && l.all fun x => decide (-1000 ≤ x ∧ x ≤ 1000)
theorem okS_says {l : List Int} (h : okS l = true) : 2 ≤ l.length ∧ l.length ≤ 24 ∧ (∀ x ∈ l, -1000 ≤ x ∧ x ≤ 1000) ∧ ∀ i : Int, 0 ≤ i → i < l.length → -1000 ≤ rd l i ∧ rd l i ≤ 1000 := by
  unfold okS at h
  simp only [Bool.and_eq_true, decide_eq_true_eq, List.all_eq_true] at h
  exact ⟨by omega, by omega, h.2, fun i h0 h1 => h.2 _ (rd_in l i h0 h1)⟩

theorem least_N (P : Nat → Prop) (n : Nat) (h : P n) : ∃ m, m ≤ n ∧ P m ∧ ∀ j, j < m → ¬ P j := by
  induction n using Nat.strongRecOn with
  | _ n ih =>
    by_cases c : ∃ j, j < n ∧ P j
    · obtain ⟨j, hj, hp⟩ := c
      obtain ⟨m, h1, h2, h3⟩ := ih j hj hp
      exact ⟨m, by omega, h2, h3⟩
    · exact ⟨n, Nat.le_refl _, h, fun j hj hp => c ⟨j, hj, hp⟩⟩

open Go.Proofs.Ytcgcmnebenllcaa.FW
/-- Gaps within w are there. -/
def fea (l : List Int) (m w : Int) : Prop := ∃ s, Cyc l.length (nx l.length) (fun k => rd l (k : Int)) w m s
theorem seams_ {l : List Int} {m : Int} (h : okS l = true) (m0 : 0 ≤ m) (m1 : m ≤ 50) : Seams l.length (nx l.length) (fun k => rd l (k : Int)) m := by
  obtain ⟨h1, h2, h3, h4⟩ := okS_says h
  exact ⟨h1, h2, m0, m1, fun k hk => h4 k (by omega) (by omega), nx_ok _ h1⟩
theorem fea_mono {l : List Int} {m w w' : Int} (h : fea l m w) (hw : w ≤ w') : fea l m w' := by
  obtain ⟨s, hs⟩ := h
  exact ⟨s, fun k hk => by have := hs k hk; omega⟩
theorem fea_zero {l : List Int} {m w : Int} (m0 : 0 ≤ m) (h : ∀ k : Nat, k < l.length → -w ≤ rd l (k : Int) ∧ rd l (k : Int) ≤ w) : fea l m w := by
  refine ⟨fun _ => 0, fun k hk => ?_⟩
  have := h k hk
  simp only []
  omega
/-- The least greatest gap. -/
def IsLW (l : List Int) (m : Int) (W : Int) : Prop := 0 ≤ W ∧ W ≤ 1000 ∧ fea l m W ∧ ∀ w, 0 ≤ w → w < W → ¬ fea l m w
theorem lw_ {l : List Int} {m : Int} (h : okS l = true) (m0 : 0 ≤ m) : ∃ W, IsLW l m W := by
  obtain ⟨h1, h2, h3, h4⟩ := okS_says h
  obtain ⟨W, q1, q2, q3⟩ := least_N (fun w => fea l m (w : Int)) 1000 (fea_zero m0 (fun k hk => h4 k (by omega) (by omega)))
  refine ⟨(W : Int), by omega, by omega, q2, fun w w0 w1 hw => ?_⟩
  obtain ⟨w, rfl⟩ : ∃ v : Nat, w = (v : Int) := ⟨w.toNat, by omega⟩
  exact q3 w (by omega) hw

theorem Max_ (a b : Int) : spec_l00Max.f a b = some (mx a b) := by
  unfold spec_l00Max.f mx
  by_cases h : a > b
  · rw [if_pos h, if_neg (by omega)]
  · rw [if_neg h]; by_cases h2 : a < b
    · rw [if_pos h2]
    · rw [if_neg h2, show a = b by omega]

theorem Min_ (a b : Int) : spec_l00Min.f a b = some (mn a b) := by
  unfold spec_l00Min.f mn
  by_cases h : a < b
  · rw [if_pos h, if_neg (by omega)]
  · rw [if_neg h]; by_cases h2 : b < a
    · rw [if_pos h2]
    · rw [if_neg h2, show a = b by omega]

/-- A table of truths for the numbers from -m to m. -/
def Tab (m : Int) (T : List Bool) (p : Int → Prop) : Prop := (T.length : Int) = 2 * m + 1 ∧ ∀ x, -m ≤ x → x ≤ m → (rdOf false T (x + m) = true ↔ p x)
theorem rdB_same (l : List Bool) (i : Int) (v : Bool) (h0 : 0 ≤ i) (h : i < l.length) : rdOf false (l.set i.toNat v) i = v := by
  unfold rdOf; simp [List.getD_eq_getElem?_getD, show i.toNat < l.length by omega]
theorem rdB_other (l : List Bool) (i j : Int) (v : Bool) (h0 : 0 ≤ i) (h1 : 0 ≤ j) (h : j ≠ i) : rdOf false (l.set i.toNat v) j = rdOf false l j := by
  unfold rdOf; simp [List.getD_eq_getElem?_getD, List.getElem?_set, show ¬ i.toNat = j.toNat by omega]
section
variable (l : List Int) (m : Int) (m0 : 0 ≤ m) (m1 : m ≤ 50) (w : Int) (w0 : 0 ≤ w) (w1 : w ≤ 1000) (hl : okS l = true) (first gore : Int) (g0 : 0 ≤ gore) (g1 : gore ≤ l.length)
include m0 m1 in
theorem from_0 (Q : List Bool → Prop) : ∀ (d : Nat) (x : Int) (T : List Bool), m + 1 - x = d → -m ≤ x → (T.length : Int) = 2 * m + 1 → (∀ y, -m ≤ y → y < x → (rdOf false T (y + m) = true ↔ y = first)) → (∀ T', Tab m T' (fun y => y = first) → EvP (fun k => spec_l19From.l1 k l gore m w T' (wrap64 ((l.length : Int) - 1))) Q) → EvP (fun k => spec_l19From.l0 k l gore first m w T x) Q := by
  intro d
  induction d with
  | zero =>
    intro x T hd hx hT hr hn
    refine EvP.step (fun k => ?_) (hn T ⟨hT, fun y h1 h2 => hr y h1 (by omega)⟩)
    simp only [spec_l19From.l0]
    rw [if_neg (by omega)]
  | succ d ih =>
    intro x T hd hx hT hr hn
    have e : ∀ k, spec_l19From.l0 (k + 1) l gore first m w T x = spec_l19From.l0 k l gore first m w (T.set (x + m).toNat (x == first)) (x + 1) := by
      intro k
      simp only [spec_l19From.l0]
      rw [w64 (n := x + m) (by omega) (by omega), if_pos (by omega), if_pos (by omega), if_pos (by omega), w64 (n := x + 1) (by omega) (by omega)]
    refine EvP.step e (ih (x + 1) _ (by omega) (by omega) (by simpa using hT) (fun y h1 h2 => ?_) hn)
    by_cases c : y = x
    · subst c
      rw [rdB_same _ _ _ (by omega) (by omega)]; simp
    · rw [rdB_other _ _ _ _ (by omega) (by omega) (by omega)]
      exact hr y h1 (by omega)
include m0 m1 in
theorem from_3 (Q : List Bool → Prop) (g : Int) (N : List Bool) (p : Int → Prop) (hN : Tab m N p) (x hi : Int) (hx : -m ≤ x) (hx2 : x ≤ m) (hhi : hi ≤ m) : ∀ (d : Nat) (y : Int) (T : List Bool), hi + 1 - y ≤ d → -m ≤ y → (T.length : Int) = 2 * m + 1 → (∀ T', (T'.length : Int) = 2 * m + 1 → (∀ z, -m ≤ z → z ≤ m → z ≠ x → rdOf false T' (z + m) = rdOf false T (z + m)) → (rdOf false T' (x + m) = true ↔ (rdOf false T (x + m) = true ∨ ∃ q, y ≤ q ∧ q ≤ hi ∧ p q)) → EvP (fun k => spec_l19From.l2 k l gore m w N g T' (x + 1)) Q) → EvP (fun k => spec_l19From.l3 k l gore m w N g T x hi y) Q := by
  intro d
  induction d with
  | zero =>
    intro y T hd hy hT hn
    refine EvP.step (h := fun k => spec_l19From.l2 k l gore m w N g T (x + 1)) (fun k => ?_) (hn T hT (fun _ _ _ _ => rfl) ⟨fun h => .inl h, fun h => h.elim (fun h => h) (fun ⟨q, q1, q2, _⟩ => by omega)⟩)
    simp only [spec_l19From.l3]
    rw [if_neg (by omega), w64 (n := x + 1) (by omega) (by omega)]
  | succ d ih =>
    intro y T hd hy hT hn
    by_cases c : y ≤ hi
    · by_cases b : rdOf false T (x + m) = true
      · refine EvP.step (h := fun k => spec_l19From.l2 k l gore m w N g T (x + 1)) (fun k => ?_) (hn T hT (fun _ _ _ _ => rfl) ⟨fun h => .inl h, fun _ => b⟩)
        simp only [spec_l19From.l3]
        rw [w64 (n := x + m) (by omega) (by omega), w64 (n := x + 1) (by omega) (by omega), if_pos c, if_pos (by omega), if_pos (by omega), if_pos b]
      · have e : ∀ k, spec_l19From.l3 (k + 1) l gore m w N g T x hi y = spec_l19From.l3 k l gore m w N g (T.set (x + m).toNat (rdOf false N (y + m))) x hi (y + 1) := by
          intro k
          simp only [spec_l19From.l3]
          rw [w64 (n := x + m) (by omega) (by omega), w64 (n := y + m) (by omega) (by omega), w64 (n := y + 1) (by omega) (by omega), if_pos c, if_pos (by omega), if_pos (by omega), if_neg b, if_pos (by omega), if_pos (by have := hN.1; omega)]
        refine EvP.step e (ih (y + 1) _ (by omega) (by omega) (by simpa using hT) (fun T' h1 h2 h3 => hn T' h1 (fun z z1 z2 z3 => ?_) ?_))
        · rw [h2 z z1 z2 z3, rdB_other _ _ _ _ (by omega) (by omega) (by omega)]
        · rw [h3, rdB_same _ _ _ (by omega) (by omega), hN.2 y hy (by omega)]
          constructor
          · rintro (h | ⟨q, q1, q2, q3⟩)
            · exact .inr ⟨y, by omega, c, h⟩
            · exact .inr ⟨q, by omega, q2, q3⟩
          · rintro (h | ⟨q, q1, q2, q3⟩)
            · exact absurd h b
            · by_cases e2 : q = y
              · subst e2; exact .inl q3
              · exact .inr ⟨q, by omega, q2, q3⟩
    · refine EvP.step (h := fun k => spec_l19From.l2 k l gore m w N g T (x + 1)) (fun k => ?_) (hn T hT (fun _ _ _ _ => rfl) ⟨fun h => .inl h, fun h => h.elim (fun h => h) (fun ⟨q, q1, q2, _⟩ => by omega)⟩)
      simp only [spec_l19From.l3]
      rw [if_neg (by omega), w64 (n := x + 1) (by omega) (by omega)]
include m0 m1 w0 w1 hl in
theorem from_2 (Q : List Bool → Prop) (g : Int) (gg0 : 0 ≤ g) (gg1 : g < l.length) (N : List Bool) (p : Int → Prop) (hN : Tab m N p) : ∀ (d : Nat) (x : Int) (T : List Bool), m + 1 - x = d → -m ≤ x → (T.length : Int) = 2 * m + 1 → (∀ z, -m ≤ z → z < x → (rdOf false T (z + m) = true ↔ ∃ q, -m ≤ q ∧ q ≤ m ∧ -w ≤ rd l g + q - z ∧ rd l g + q - z ≤ w ∧ p q)) → (∀ z, x ≤ z → z ≤ m → rdOf false T (z + m) = false) → (∀ T', Tab m T' (fun z => ∃ q, -m ≤ q ∧ q ≤ m ∧ -w ≤ rd l g + q - z ∧ rd l g + q - z ≤ w ∧ p q) → EvP (fun k => spec_l19From.l1 k l gore m w T' (wrap64 (g - 1))) Q) → EvP (fun k => spec_l19From.l2 k l gore m w N g T x) Q := by
  obtain ⟨l1, l2, l3, l4⟩ := okS_says hl
  have hb := l4 g gg0 gg1
  intro d
  induction d with
  | zero =>
    intro x T hd hx hT h1 h2 hn
    refine EvP.step (fun k => ?_) (hn T ⟨hT, fun z z1 z2 => h1 z z1 (by omega)⟩)
    simp only [spec_l19From.l2]
    rw [if_neg (by omega)]
  | succ d ih =>
    intro x T hd hx hT h1 h2 hn
    have e : ∀ k, spec_l19From.l2 (k + 1) l gore m w N g T x = spec_l19From.l3 k l gore m w N g T x (mn m (x - rd l g + w)) (mx (-m) (x - rd l g - w)) := by
      intro k
      simp only [spec_l19From.l2]
      rw [if_pos (by omega), if_pos gg0, if_pos gg1, w64 (n := -m) (by omega) (by omega), w64 (n := x - rd l g) (by omega) (by omega), w64 (n := x - rd l g - w) (by omega) (by omega), w64 (n := x - rd l g + w) (by omega) (by omega), Max_, Min_]; rfl
    have a1 : mn m (x - rd l g + w) ≤ m ∧ mn m (x - rd l g + w) ≤ x - rd l g + w ∧ (mn m (x - rd l g + w) = m ∨ mn m (x - rd l g + w) = x - rd l g + w) := by unfold mn; split <;> omega
    have a2 : -m ≤ mx (-m) (x - rd l g - w) ∧ x - rd l g - w ≤ mx (-m) (x - rd l g - w) ∧ (mx (-m) (x - rd l g - w) = -m ∨ mx (-m) (x - rd l g - w) = x - rd l g - w) := by unfold mx; split <;> omega
    generalize mn m (x - rd l g + w) = hi at e a1
    generalize mx (-m) (x - rd l g - w) = lo at e a2
    refine EvP.step e (from_3 l m m0 m1 w gore Q g N p hN x hi hx (by omega) a1.1 (hi + 1 - lo).toNat lo T (by omega) a2.1 hT (fun T' t1 t2 t3 => ?_))
    refine ih (x + 1) T' (by omega) (by omega) t1 (fun z z1 z2 => ?_) (fun z z1 z2 => by rw [t2 z (by omega) z2 (by omega)]; exact h2 z (by omega) z2) hn
    by_cases c : z = x
    · subst c
      rw [t3, h2 z (by omega) (by omega)]
      constructor
      · rintro (h | ⟨q, q1, q2, q3⟩)
        · cases h
        · exact ⟨q, by omega, by omega, by omega, by omega, q3⟩
      · rintro ⟨q, q1, q2, q3, q4, q5⟩
        exact .inr ⟨q, by omega, by omega, q5⟩
    · rw [t2 z z1 (by omega) c]; exact h1 z z1 (by omega)
theorem rdB_rep (n : Nat) (i : Int) (h0 : 0 ≤ i) : rdOf false (List.replicate n false) i = false := by
  unfold rdOf
  rw [List.getD_eq_getElem?_getD, List.getElem?_replicate]
  split <;> rfl
include m0 m1 w0 w1 hl g0 in
theorem from_1 : ∀ (e d : Nat) (T : List Bool), (l.length : Int) - gore - d = e → Tab m T (CanN l.length (fun k => rd l (k : Int)) w m first d) → EvP (fun k => spec_l19From.l1 k l gore m w T ((l.length : Int) - 1 - d)) (fun T' => Tab m T' (CanN l.length (fun k => rd l (k : Int)) w m first (l.length - gore.toNat))) := by
  obtain ⟨l1, l2, l3, l4⟩ := okS_says hl
  intro e
  induction e with
  | zero =>
    intro d T he hT
    refine ⟨T, ?_, Ev.now (fun k => ?_)⟩
    · rw [show l.length - gore.toNat = d by omega]; exact hT
    · simp only [spec_l19From.l1]
      rw [if_neg (by omega)]
  | succ e ih =>
    intro d T he hT
    have es : ∀ k, spec_l19From.l1 (k + 1) l gore m w T ((l.length : Int) - 1 - d) = spec_l19From.l2 k l gore m w T ((l.length : Int) - 1 - d) (List.replicate (2 * m + 1).toNat false) (-m) := by
      intro k
      simp only [spec_l19From.l1]
      rw [if_pos (by omega), w64 (n := 2 * m) (by omega) (by omega), w64 (n := 2 * m + 1) (by omega) (by omega), if_pos (by omega), if_pos (by omega), w64 (n := -m) (by omega) (by omega)]
    refine EvP.step es (from_2 l m m0 m1 w w0 w1 hl gore _ ((l.length : Int) - 1 - d) (by omega) (by omega) T _ hT (2 * m + 1).toNat (-m) _ (by omega) (by omega) (by simp; omega) (fun z z1 z2 => by omega) (fun z z1 z2 => rdB_rep _ _ (by omega)) (fun T' hT' => ?_))
    rw [w64 (n := (l.length : Int) - 1 - d - 1) (by omega) (by omega), show (l.length : Int) - 1 - d - 1 = (l.length : Int) - 1 - ((d + 1 : Nat) : Int) by omega]
    refine ih (d + 1) T' (by omega) ⟨hT'.1, fun x x1 x2 => ?_⟩
    rw [hT'.2 x x1 x2]
    have e3 : ((l.length - (d + 1) : Nat) : Int) = (l.length : Int) - 1 - d := by omega
    show _ ↔ ∃ y, -m ≤ y ∧ y ≤ m ∧ -w ≤ rd l ((l.length - (d + 1) : Nat) : Int) + y - x ∧ rd l ((l.length - (d + 1) : Nat) : Int) + y - x ≤ w ∧ CanN l.length (fun k => rd l (k : Int)) w m first d y
    rw [e3]
include m0 m1 w0 w1 hl g0 g1 in
theorem SpecFrom_ : EvP (fun k => spec_l19From.f k l gore first m w) (fun T' => Tab m T' (CanN l.length (fun k => rd l (k : Int)) w m first (l.length - gore.toNat))) := by
  obtain ⟨l1, l2, l3, l4⟩ := okS_says hl
  refine EvP.eq (h := fun k => spec_l19From.l0 k l gore first m w (List.replicate (2 * m + 1).toNat false) (-m)) (fun k => ?_) ?_
  · unfold spec_l19From.f
    rw [w64 (n := 2 * m) (by omega) (by omega), w64 (n := 2 * m + 1) (by omega) (by omega), if_pos (by omega), if_pos (by omega), w64 (n := -m) (by omega) (by omega)]
  · refine from_0 l m m0 m1 w first gore _ (2 * m + 1).toNat (-m) _ (by omega) (by omega) (by simp; omega) (fun y y1 y2 => by omega) (fun T' hT' => ?_)
    rw [w64 (n := (l.length : Int) - 1) (by omega) (by omega)]
    have := from_1 l m m0 m1 w w0 w1 hl first gore g0 (l.length - gore.toNat) 0 T' (by omega) hT'
    rw [show (l.length : Int) - 1 - ((0 : Nat) : Int) = (l.length : Int) - 1 by omega] at this
    exact this
end

theorem SpecCan_ (l : List Int) (m : Int) (m0 : 0 ≤ m) (m1 : m ≤ 50) (w : Int) (w0 : 0 ≤ w) (w1 : w ≤ 1000) (hl : okS l = true) (first : Int) (f0 : -m ≤ first) (f1 : first ≤ m) : EvP (fun k => spec_l19Can.f k l first m w) (fun b => b = true ↔ ∃ s, Cyc l.length (nx l.length) (fun k => rd l (k : Int)) w m s ∧ s 0 = first) := by
  obtain ⟨l1, l2, l3, l4⟩ := okS_says hl
  obtain ⟨T, hT, hE⟩ := SpecFrom_ l m m0 m1 w w0 w1 hl first 0 (by omega) (by omega)
  refine ⟨rdOf false T (first + m), ?_, ?_⟩
  · show rdOf false T (first + m) = true ↔ _
    rw [hT.2 first f0 f1]
    exact can_first l.length l1 _ w m first f0 f1
  · refine Ev.eq (h := fun k => (spec_l19From.f k l 0 first m w).bind fun t => (if 0 ≤ (wrap64 (first + m)) then (if (wrap64 (first + m)) < (t.length : Int) then (some (rdOf false t (wrap64 (first + m)))) else (none)) else (none))) (fun k => rfl) (Ev.bind hE ⟨0, fun k _ => ?_⟩)
    have := hT.1
    rw [w64 (n := first + m) (by omega) (by omega), if_pos (by omega), if_pos (by omega)]

/-- The greatest size of a number of a list. -/
def wor (l : List Int) (a : Int) : Int := l.foldl (fun s x => mx s (ab x)) a
theorem wor_says : ∀ (l : List Int) (a : Int), a ≤ wor l a ∧ (∀ x ∈ l, ab x ≤ wor l a) ∧ (wor l a = a ∨ ∃ x ∈ l, wor l a = ab x)
  | [], a => ⟨Int.le_refl _, fun x h => by simp at h, .inl rfl⟩
  | x :: l, a => by
    have h := wor_says l (mx a (ab x))
    have e : wor (x :: l) a = wor l (mx a (ab x)) := rfl
    have hm : (mx a (ab x) = a ∧ ab x ≤ a) ∨ (mx a (ab x) = ab x ∧ a ≤ ab x) := by unfold mx; split <;> omega
    rw [e]
    refine ⟨by omega, fun y hy => ?_, ?_⟩
    · rcases List.mem_cons.1 hy with rfl | hy
      · omega
      · exact h.2.1 y hy
    · rcases h.2.2 with h2 | ⟨y, hy, h2⟩
      · rcases hm with hm | hm
        · left; omega
        · right; exact ⟨x, by simp, by omega⟩
      · right; exact ⟨y, by simp [hy], h2⟩

theorem Size_ (a : Int) (ha : -9223372036854775807 ≤ a) (ha2 : a ≤ 9223372036854775807) : spec_l00Size.f a = some (ab a) := by
  unfold spec_l00Size.f ab
  by_cases h : a < 0
  · rw [if_pos h, if_pos h, w64 (by omega) (by omega)]
  · rw [if_neg h, if_neg h]

theorem specWorst_l (l : List Int) (hl : l.length ≤ 1048576) (hb : ∀ i : Int, 0 ≤ i → i < l.length → -9223372036854775807 ≤ rd l i ∧ rd l i ≤ 9223372036854775807) : ∀ (d k : Nat) (i a : Int), (l.length : Int) - i = d → 0 ≤ i → d < k → spec_l19Worst.l0 k l a i = some (wor (l.drop i.toNat) a) := by
  intro d
  induction d with
  | zero =>
    intro k i a hd h0 hk
    obtain ⟨k, rfl⟩ : ∃ m, k = m + 1 := ⟨k - 1, by omega⟩
    simp only [spec_l19Worst.l0]; rw [if_neg (by omega), List.drop_eq_nil_of_le (by omega)]; rfl
  | succ d ih =>
    intro k i a hd h0 hk
    obtain ⟨k, rfl⟩ : ∃ m, k = m + 1 := ⟨k - 1, by omega⟩
    have hx := hb i h0 (by omega)
    simp only [spec_l19Worst.l0]
    rw [if_pos (by omega), if_pos h0, Size_ _ hx.1 hx.2]; simp only [Option.bind_some]
    rw [Max_]; simp only [Option.bind_some]
    rw [w64 (n := i + 1) (by omega) (by omega), ih k (i + 1) _ (by omega) (by omega) (by omega), drop_rd l i h0 (by omega)]; rfl
theorem SpecWorst_ (l : List Int) (h : okS l = true) (k : Nat) (hk : 30 ≤ k) : spec_l19Worst.f k l = some (wor l 0) := by
  obtain ⟨h1, h2, h3, h4⟩ := okS_says h
  unfold spec_l19Worst.f
  rw [specWorst_l l (by omega) (fun i a b => by have := h4 i a b; omega) l.length k 0 0 (by omega) (by omega) (by omega)]; simp

theorem specLeast_1 (l : List Int) (m : Int) (m0 : 0 ≤ m) (m1 : m ≤ 50) (hl : okS l = true) (lo hi mid : Int) (k0 : 0 ≤ mid) (k1 : mid ≤ 1000) (r : Int) (hy : fea l m mid → Ev (fun k => spec_l19Least.l0 k l m lo mid) r) (hn : ¬ fea l m mid → Ev (fun k => spec_l19Least.l0 k l m mid hi) r) : ∀ (d : Nat) (x : Int) (b : Bool), m + 1 - x = d → -m ≤ x → (b = true → fea l m mid) → (b = false → ∀ s, Cyc l.length (nx l.length) (fun k => rd l (k : Int)) mid m s → x ≤ s 0) → Ev (fun k => spec_l19Least.l1 k l m lo hi mid b x) r := by
  obtain ⟨l1, l2, l3, l4⟩ := okS_says hl
  intro d
  induction d with
  | zero =>
    intro x b hd hx hb hb2
    cases b with
    | true =>
      refine Ev.step (fun k => ?_) (hy (hb rfl))
      simp only [spec_l19Least.l1]
      rw [if_neg (by omega)]; rfl
    | false =>
      refine Ev.step (fun k => ?_) (hn (fun ⟨s, hs⟩ => by have := hb2 rfl s hs; have := hs 0 (by omega); omega))
      simp only [spec_l19Least.l1]
      rw [if_neg (by omega)]; rfl
  | succ d ih =>
    intro x b hd hx hb hb2
    cases b with
    | true =>
      refine Ev.step (fun k => ?_) (hy (hb rfl))
      simp only [spec_l19Least.l1]
      rw [if_pos (by omega)]; rfl
    | false =>
      obtain ⟨b, hb3, hE⟩ := SpecCan_ l m m0 m1 mid k0 k1 hl x hx (by omega)
      have e : ∀ k, spec_l19Least.l1 (k + 1) l m lo hi mid false x = (spec_l19Can.f k l x m mid).bind fun t => spec_l19Least.l1 k l m lo hi mid t (x + 1) := by
        intro k
        simp only [spec_l19Least.l1]
        rw [if_pos (by omega), w64 (n := x + 1) (by omega) (by omega)]; rfl
      refine Ev.step e (Ev.bind hE (ih (x + 1) b (by omega) (by omega) (fun h => ?_) (fun h s hs => ?_)))
      · obtain ⟨s, hs, _⟩ := hb3.1 h; exact ⟨s, hs⟩
      · have h1 := hb2 rfl s hs
        by_cases e2 : s 0 = x
        · have := hb3.2 ⟨s, hs, e2⟩
          rw [h] at this; cases this
        · omega
theorem specLeast_0 (l : List Int) (m : Int) (m0 : 0 ≤ m) (m1 : m ≤ 50) (hl : okS l = true) (W : Int) (hW : IsLW l m W) : ∀ (d : Nat) (a b : Int), b - a ≤ d → -1 ≤ a → a < W → W ≤ b → b ≤ 1000 → Ev (fun k => spec_l19Least.l0 k l m a b) W := by
  intro d
  induction d with
  | zero => intro a b hd ha haW hWb hb; omega
  | succ d ih =>
    intro a b hd ha haW hWb hb
    by_cases c : b - a > 1
    · have hmid : Int.tdiv (a + b) 2 = (a + b) / 2 := Int.tdiv_eq_ediv_of_nonneg (by omega)
      refine Ev.step (h := fun k => spec_l19Least.l1 k l m a b ((a + b) / 2) false (-m)) (fun k => ?_) (specLeast_1 l m m0 m1 hl a b ((a + b) / 2) (by omega) (by omega) W (fun f => ?_) (fun f => ?_) (2 * m + 1).toNat (-m) false (by omega) (by omega) (fun h => by cases h) (fun _ s hs => (hs 0 (by have := (okS_says hl).1; omega)).1))
      · simp only [spec_l19Least.l0]
        rw [w64 (n := b - a) (by omega) (by omega), if_pos c, w64 (n := a + b) (by omega) (by omega), hmid, w64 (n := (a + b) / 2) (by omega) (by omega), w64 (n := -m) (by omega) (by omega)]
      · refine ih a ((a + b) / 2) (by omega) ha haW ?_ (by omega)
        by_cases g : W ≤ (a + b) / 2
        · exact g
        · exact absurd f (hW.2.2.2 _ (by omega) (by omega))
      · refine ih ((a + b) / 2) b (by omega) (by omega) ?_ hWb hb
        by_cases g : W ≤ (a + b) / 2
        · exact absurd (fea_mono hW.2.2.1 g) f
        · omega
    · refine Ev.now (fun k => ?_)
      simp only [spec_l19Least.l0]
      rw [w64 (n := b - a) (by omega) (by omega), if_neg c, show b = W by omega]
theorem wor_fea {l : List Int} {m : Int} (hl : okS l = true) (m0 : 0 ≤ m) : 0 ≤ wor l 0 ∧ wor l 0 ≤ 1000 ∧ fea l m (wor l 0) := by
  obtain ⟨l1, l2, l3, l4⟩ := okS_says hl
  obtain ⟨w1, w2, w3⟩ := wor_says l 0
  refine ⟨w1, ?_, fea_zero m0 (fun k hk => ?_)⟩
  · rcases w3 with w3 | ⟨x, hx, w3⟩
    · omega
    · have := l3 x hx; rw [w3]; unfold ab; split <;> omega
  · have := w2 _ (rd_in l (k : Int) (by omega) (by omega))
    unfold ab at this; split at this <;> omega
theorem SpecLeast_ (l : List Int) (m : Int) (m0 : 0 ≤ m) (m1 : m ≤ 50) (hl : okS l = true) (W : Int) (hW : IsLW l m W) : Ev (fun k => spec_l19Least.f k l m) W := by
  obtain ⟨w1, w2, w3⟩ := wor_fea hl m0
  have hWw : W ≤ wor l 0 := by
    by_cases g : W ≤ wor l 0
    · exact g
    · exact absurd w3 (hW.2.2.2 _ w1 (by omega))
  refine Ev.eq (h := fun k => (spec_l19Worst.f k l).bind fun t => spec_l19Least.l0 k l m (-1) t) (fun k => rfl) (Ev.bind (t := wor l 0) ⟨30, fun k hk => SpecWorst_ l hl k hk⟩ (specLeast_0 l m m0 m1 hl W hW (wor l 0 + 1).toNat (-1) _ (by omega) (by omega) (by have := hW.1; omega) hWw w2))

/-- The least point of the gaps within w, told as a list. -/
def pts (n : Nat) (p : Nat → Int) (j : Nat) : List Int := (List.range j).map p
theorem pts_succ (n : Nat) (p : Nat → Int) (j : Nat) : pts n p (j + 1) = pts n p j ++ [p j] := by
  unfold pts; rw [List.range_succ, List.map_append]; rfl
theorem pts_len (n : Nat) (p : Nat → Int) (j : Nat) : (pts n p j).length = j := by simp [pts]
theorem pts_rd (n : Nat) (p : Nat → Int) (j : Nat) (i : Int) (h0 : 0 ≤ i) (h : i < j) : rd (pts n p j) i = p i.toNat := rd_map _ _ _ h0 h
/-- p is the least one of the numbers that leave gaps within w. -/
structure IsPt (l : List Int) (m w : Int) (p : Nat → Int) : Prop where
  cyc : Cyc l.length (nx l.length) (fun k => rd l (k : Int)) w m p
  least : ∀ s, Cyc l.length (nx l.length) (fun k => rd l (k : Int)) w m s → ∀ k, k < l.length → p k ≤ s k

section
variable (l : List Int) (m : Int) (m0 : 0 ≤ m) (m1 : m ≤ 50) (w : Int) (w0 : 0 ≤ w) (w1 : w ≤ 1000) (hl : okS l = true) (p : Nat → Int) (hp : IsPt l m w p)
include m0 m1 hl hp in
theorem best_2 (r : List Int × Int) (j : Nat) (j1 : 1 ≤ j) (j2 : j < l.length) (T : List Bool) (hT : Tab m T (CanN l.length (fun k => rd l (k : Int)) w m (p 0) (l.length - j))) (hn : Ev (fun k => spec_BestShifts.l1 k l m w (p 0) (pts l.length p (j + 1)) ((j + 1 : Nat) : Int)) r) : ∀ (d : Nat) (x : Int), p j - x = d → -m ≤ x → p (j - 1) - rd l ((j - 1 : Nat) : Int) - w ≤ x → Ev (fun k => spec_BestShifts.l2 k l m w (p 0) (pts l.length p j) (j : Int) T x) r := by
  obtain ⟨l1, l2, l3, l4⟩ := okS_says hl
  obtain ⟨q1, q2, q3⟩ := can_least l.length l1 (fun k => rd l (k : Int)) w m p hp.cyc hp.least j j1 j2
  intro d
  induction d with
  | zero =>
    intro x hd hx hx2
    have e : x = p j := by omega
    subst e
    refine Ev.step (fun k => ?_) hn
    have := hT.1
    simp only [spec_BestShifts.l2]
    rw [w64 (n := p j + m) (by omega) (by omega), if_pos (by omega), if_pos (by omega), if_pos ((hT.2 _ hx q2.2.2).2 q1), pts_len, if_pos (by omega), w64 (n := (j : Int) + 1) (by omega) (by omega), ← pts_succ]
    rfl
  | succ d ih =>
    intro x hd hx hx2
    have hf : ¬ rdOf false T (x + m) = true := by
      intro h
      have := q3 x hx hx2 ((hT.2 x hx (by omega)).1 h)
      omega
    refine Ev.step (fun k => ?_) (ih (x + 1) (by omega) (by omega) (by omega))
    have := hT.1
    simp only [spec_BestShifts.l2]
    rw [w64 (n := x + m) (by omega) (by omega), if_pos (by omega), if_pos (by omega), if_neg hf, w64 (n := x + 1) (by omega) (by omega)]
include m0 m1 w0 w1 hl hp in
theorem best_1 : ∀ (d j : Nat), l.length - j = d → 1 ≤ j → j ≤ l.length → Ev (fun k => spec_BestShifts.l1 k l m w (p 0) (pts l.length p j) (j : Int)) (pts l.length p l.length, 0) := by
  obtain ⟨l1, l2, l3, l4⟩ := okS_says hl
  intro d
  induction d with
  | zero =>
    intro j hd j1 j2
    obtain rfl : j = l.length := by omega
    refine Ev.now (fun k => ?_)
    simp only [spec_BestShifts.l1]
    rw [if_neg (by omega)]
  | succ d ih =>
    intro j hd j1 j2
    have hj := hp.cyc (j - 1) (by omega)
    have hg := l4 ((j - 1 : Nat) : Int) (by omega) (by omega)
    obtain ⟨T, hT, hE⟩ := SpecFrom_ l m m0 m1 w w0 w1 hl (p 0) (j : Int) (by omega) (by omega)
    rw [Int.toNat_natCast] at hT
    obtain ⟨q1, q2, q3⟩ := can_least l.length l1 (fun k => rd l (k : Int)) w m p hp.cyc hp.least j j1 (by omega)
    have a2 : -m ≤ mx (-m) (p (j - 1) - rd l ((j - 1 : Nat) : Int) - w) ∧ p (j - 1) - rd l ((j - 1 : Nat) : Int) - w ≤ mx (-m) (p (j - 1) - rd l ((j - 1 : Nat) : Int) - w) ∧ (mx (-m) (p (j - 1) - rd l ((j - 1 : Nat) : Int) - w) = -m ∨ mx (-m) (p (j - 1) - rd l ((j - 1 : Nat) : Int) - w) = p (j - 1) - rd l ((j - 1 : Nat) : Int) - w) := by unfold mx; split <;> omega
    have e : ∀ k, spec_BestShifts.l1 (k + 1) l m w (p 0) (pts l.length p j) (j : Int) = (spec_l19From.f k l (j : Int) (p 0) m w).bind fun t => spec_BestShifts.l2 k l m w (p 0) (pts l.length p j) (j : Int) t (mx (-m) (p (j - 1) - rd l ((j - 1 : Nat) : Int) - w)) := by
      intro k
      simp only [spec_BestShifts.l1]
      rw [if_pos (by omega), w64 (n := (j : Int) - 1) (by omega) (by omega), pts_len, show ((j : Int) - 1) = ((j - 1 : Nat) : Int) by omega, pts_rd _ _ _ _ (by omega) (by omega), Int.toNat_natCast, w64 (n := -m) (by omega) (by omega), w64 (n := p (j - 1) - rd l ((j - 1 : Nat) : Int)) (by omega) (by omega), w64 (n := p (j - 1) - rd l ((j - 1 : Nat) : Int) - w) (by omega) (by omega), Max_]
      congr 1
      funext t
      rw [if_pos (by omega), if_pos (by omega), if_pos (by omega)]; rfl
    have hle : mx (-m) (p (j - 1) - rd l ((j - 1 : Nat) : Int) - w) ≤ p j := by
      have := q2.1
      have := q2.2.1
      omega
    exact Ev.step e (Ev.bind hE (best_2 l m m0 m1 w hl p hp _ j j1 (by omega) T hT (ih (j + 1) (by omega) (by omega) (by omega)) (p j - mx (-m) (p (j - 1) - rd l ((j - 1 : Nat) : Int) - w)).toNat (mx (-m) (p (j - 1) - rd l ((j - 1 : Nat) : Int) - w)) (by omega) a2.1 a2.2.1))
include m0 m1 w0 w1 hl hp in
theorem best_0 : ∀ (d : Nat) (x : Int), p 0 - x = d → -m ≤ x → Ev (fun k => spec_BestShifts.l0 k l m w x) (pts l.length p l.length, 0) := by
  obtain ⟨l1, l2, l3, l4⟩ := okS_says hl
  have h0 := hp.cyc 0 (by omega)
  intro d
  induction d with
  | zero =>
    intro x hd hx
    have e : x = p 0 := by omega
    subst e
    obtain ⟨b, hb, hE⟩ := SpecCan_ l m m0 m1 w w0 w1 hl (p 0) hx h0.2.1
    have hbt : b = true := hb.2 ⟨p, hp.cyc, rfl⟩
    subst hbt
    refine Ev.step (h := fun k => (spec_l19Can.f k l (p 0) m w).bind fun t => (if t = true then spec_BestShifts.l1 k l m w (p 0) [p 0] 1 else spec_BestShifts.l0 k l m w (wrap64 (p 0 + 1)))) (fun k => by simp only [spec_BestShifts.l0]) (Ev.bind hE ?_)
    refine Ev.eq (h := fun k => spec_BestShifts.l1 k l m w (p 0) [p 0] 1) (fun k => by rw [if_pos rfl]) ?_
    exact best_1 l m m0 m1 w w0 w1 hl p hp (l.length - 1) 1 rfl (Nat.le_refl _) (by omega)
  | succ d ih =>
    intro x hd hx
    obtain ⟨b, hb, hE⟩ := SpecCan_ l m m0 m1 w w0 w1 hl x hx (by omega)
    have hbf : b = false := by
      cases b with
      | false => rfl
      | true =>
        obtain ⟨s, hs, e⟩ := hb.1 rfl
        have := hp.least s hs 0 (by omega)
        omega
    subst hbf
    refine Ev.step (h := fun k => (spec_l19Can.f k l x m w).bind fun t => (if t = true then spec_BestShifts.l1 k l m w x [x] 1 else spec_BestShifts.l0 k l m w (wrap64 (x + 1)))) (fun k => by simp only [spec_BestShifts.l0]) (Ev.bind hE ?_)
    refine Ev.eq (h := fun k => spec_BestShifts.l0 k l m w (x + 1)) (fun k => by rw [if_neg (by simp), w64 (n := x + 1) (by omega) (by omega)]) ?_
    exact ih (x + 1) (by omega) (by omega)
end

theorem possible_l (C : List (List Int)) (N : Nat) (hs : Go.Proofs.Ytcgcmnebenllcaa.FW.Sq C N) (hN : N ≤ 100) : ∀ (d i : Nat), N - i = d → i ≤ N → ∀ b : Bool, (b = true ↔ ∀ j : Nat, i ≤ j → j < N → 0 ≤ Go.Proofs.Ytcgcmnebenllcaa.FW.g2 C j j) → Ev (fun k => impl_bounds_possible.l0 k C (N : Int) (i : Int)) b := by
  intro d
  induction d with
  | zero =>
    intro i hd hi b hb
    have : b = true := hb.2 (fun j h1 h2 => by omega)
    subst this
    refine Ev.now (fun k => ?_)
    simp only [impl_bounds_possible.l0]
    rw [if_neg (by omega)]
  | succ d ih =>
    intro i hd hi b hb
    have hrd : rd_L1 C (i : Int) = C.getD i [] := by unfold rd_L1; rw [Int.toNat_natCast]
    have hg : rd (rd_L1 C (i : Int)) (i : Int) = Go.Proofs.Ytcgcmnebenllcaa.FW.g2 C i i := by rw [hrd]; unfold rd Go.Proofs.Ytcgcmnebenllcaa.FW.g2; rw [Int.toNat_natCast]
    have e : ∀ k, impl_bounds_possible.l0 (k + 1) C (N : Int) (i : Int) = if Go.Proofs.Ytcgcmnebenllcaa.FW.g2 C i i < 0 then some false else impl_bounds_possible.l0 k C (N : Int) ((i + 1 : Nat) : Int) := by
      intro k
      simp only [impl_bounds_possible.l0]
      rw [if_pos (by omega), if_pos (by omega), if_pos (by have := hs.1; omega), if_pos (by rw [hrd, hs.2 i (by omega)]; omega), hg, w64 (n := (i : Int) + 1) (by omega) (by omega)]
      rfl
    by_cases c : Go.Proofs.Ytcgcmnebenllcaa.FW.g2 C i i < 0
    · have : b = false := by
        cases b with
        | false => rfl
        | true => have := hb.1 rfl i (Nat.le_refl _) (by omega); omega
      subst this
      exact Ev.now (fun k => by rw [e, if_pos c])
    · refine Ev.step (h := fun k => impl_bounds_possible.l0 k C (N : Int) ((i + 1 : Nat) : Int)) (fun k => by rw [e, if_neg c]) (ih (i + 1) (by omega) (by omega) b ?_)
      rw [hb]
      constructor
      · intro h j h1 h2; exact h j (by omega) h2
      · intro h j h1 h2
        by_cases e2 : j = i
        · subst e2; omega
        · exact h j (by omega) h2
theorem Possible_ (C : List (List Int)) (N : Nat) (hs : Go.Proofs.Ytcgcmnebenllcaa.FW.Sq C N) (hN : N ≤ 100) (b : Bool) (hb : b = true ↔ ∀ j : Nat, j < N → 0 ≤ Go.Proofs.Ytcgcmnebenllcaa.FW.g2 C j j) : Ev (fun k => impl_bounds_possible.f k C) b := by
  refine Ev.eq (h := fun k => impl_bounds_possible.l0 k C (N : Int) ((0 : Nat) : Int)) (fun k => ?_) (possible_l C N hs hN N 0 (by omega) (by omega) b (by rw [hb]; exact ⟨fun h j _ h2 => h j h2, fun h j h2 => h j (by omega) h2⟩))
  unfold impl_bounds_possible.f
  rw [hs.1]; rfl

theorem implLeast_l (l : List Int) (m : Int) (h : okS l = true) (m0 : 0 ≤ m) (m1 : m ≤ 50) (W : Int) (hW : IsLW l m W) : ∀ (d : Nat) (a b : Int), b - a ≤ d → 0 ≤ a → a ≤ W → W ≤ b → b ≤ 1000 → Ev (fun k => impl_leastWorst.l0 k l m a b) W := by
  obtain ⟨h1, h2, h3, h4⟩ := okS_says h
  have hS := seams_ h m0 m1
  intro d
  induction d with
  | zero =>
    intro a b hd ha haW hWb hb
    refine Ev.now (fun k => ?_)
    simp only [impl_leastWorst.l0]
    rw [if_neg (by omega), show a = W by omega]
  | succ d ih =>
    intro a b hd ha haW hWb hb
    by_cases c : a < b
    · have hmid : Int.tdiv (a + b) 2 = (a + b) / 2 := Int.tdiv_eq_ediv_of_nonneg (by omega)
      obtain ⟨c1, c2, c3⟩ := cb_ hS ((a + b) / 2) (by omega) (by omega)
      obtain ⟨q, hq⟩ : ∃ q : Bool, q = true ↔ fea l m ((a + b) / 2) := by
        by_cases e : fea l m ((a + b) / 2)
        · exact ⟨true, by simp [e]⟩
        · exact ⟨false, by simp [e]⟩
      have hp := Possible_ _ _ c1 (by omega) q (hq.trans c2)
      have e : ∀ k, impl_leastWorst.l0 (k + 1) l m a b = (impl_bounds_possible.f k (cb l.length (nx l.length) (fun k => rd l (k : Int)) ((a + b) / 2) m)).bind fun t => if t = true then impl_leastWorst.l0 k l m a ((a + b) / 2) else impl_leastWorst.l0 k l m ((a + b) / 2 + 1) b := by
        intro k
        simp only [impl_leastWorst.l0]
        rw [if_pos c, w64 (n := a + b) (by omega) (by omega), hmid, w64 (n := (a + b) / 2) (by omega) (by omega), w64 (n := (a + b) / 2 + 1) (by omega) (by omega)]
        rw [show impl_boundsFor.f l m ((a + b) / 2) = some (cb l.length (nx l.length) (fun k => rd l (k : Int)) ((a + b) / 2) m) from by unfold impl_boundsFor.f; rw [if_pos ⟨h1, h2⟩]]
        rfl
      refine Ev.step e (Ev.bind hp ?_)
      by_cases f : fea l m ((a + b) / 2)
      · have : q = true := hq.2 f
        subst this
        refine Ev.eq (fun k => by rw [if_pos rfl]) (ih a ((a + b) / 2) (by omega) ha haW ?_ (by omega))
        by_cases g : W ≤ (a + b) / 2
        · exact g
        · exact absurd f (hW.2.2.2 _ (by omega) (by omega))
      · have : q = false := by
          cases q with
          | false => rfl
          | true => exact absurd (hq.1 rfl) f
        subst this
        refine Ev.eq (fun k => by rw [if_neg (by simp)]) (ih ((a + b) / 2 + 1) b (by omega) (by omega) ?_ hWb hb)
        by_cases g : W ≤ (a + b) / 2
        · exact absurd (fea_mono hW.2.2.1 g) f
        · omega
    · refine Ev.now (fun k => ?_)
      simp only [impl_leastWorst.l0]
      rw [if_neg c, show a = W by omega]
theorem ImplLeast_ (l : List Int) (m : Int) (h : okS l = true) (m0 : 0 ≤ m) (m1 : m ≤ 50) (W : Int) (hW : IsLW l m W) : Ev (fun k => impl_leastWorst.f k l m) W :=
  implLeast_l l m h m0 m1 W hW 1000 0 1000 (by omega) (by omega) hW.1 hW.2.1 (by omega)

theorem In_ (a b c : Int) : spec_l00In.f a b c = some (decide (b ≤ a ∧ a ≤ c)) := by
  unfold spec_l00In.f
  by_cases h : a ≥ b
  · rw [if_pos h]; simp [show b ≤ a from h]
  · rw [if_neg h]; simp [show ¬ b ≤ a from h]

theorem specOk_l (l : List Int) (hl : l.length ≤ 1048576) : ∀ (d k : Nat) (i : Int), (l.length : Int) - i = d → 0 ≤ i → d < k → spec_l19Ok.l0 k l i = some ((l.drop i.toNat).all (fun x => decide (-1000 ≤ x ∧ x ≤ 1000)) && decide (2 ≤ (l.length : Int) ∧ (l.length : Int) ≤ 24)) := by
  intro d
  induction d with
  | zero =>
    intro k i hd h0 hk
    obtain ⟨k, rfl⟩ : ∃ m, k = m + 1 := ⟨k - 1, by omega⟩
    simp only [spec_l19Ok.l0]; rw [if_neg (by omega), In_, List.drop_eq_nil_of_le (by omega)]; simp
  | succ d ih =>
    intro k i hd h0 hk
    obtain ⟨k, rfl⟩ : ∃ m, k = m + 1 := ⟨k - 1, by omega⟩
    simp only [spec_l19Ok.l0]
    rw [if_pos (by omega), if_pos h0, In_, drop_rd l i h0 (by omega), w64 (by omega) (by omega), ih k (i + 1) (by omega) (by omega) (by omega)]
    simp only [Option.bind_some, List.all_cons]
    by_cases c : -1000 ≤ rd l i ∧ rd l i ≤ 1000
    · simp [c]
    · simp [c]
theorem SpecOkS_ (l : List Int) (hl : l.length ≤ 1048576) (k : Nat) (hk : 1048577 ≤ k) : spec_l19Ok.f k l = some (okS l) := by
  unfold spec_l19Ok.f okS
  rw [specOk_l l hl l.length k 0 (by omega) (by omega) (by omega)]
  simp [Bool.and_comm]

theorem ImplOkS_ (l : List Int) : impl_ValidSeams.f l = some (okS l) := by
  unfold impl_ValidSeams.f impl_allWithin.f okS
  by_cases h1 : (l.length : Int) ≥ 2
  · by_cases h2 : (l.length : Int) ≤ 24
    · have e : decide (2 ≤ (l.length : Int) ∧ (l.length : Int) ≤ 24) = true := decide_eq_true ⟨h1, h2⟩
      rw [if_pos h1, if_pos h2, e]; simp
    · have e : decide (2 ≤ (l.length : Int) ∧ (l.length : Int) ≤ 24) = false := decide_eq_false (fun x => h2 x.2)
      rw [if_pos h1, if_neg h2, e]; simp
  · have e : decide (2 ≤ (l.length : Int) ∧ (l.length : Int) ≤ 24) = false := decide_eq_false (fun x => h1 x.1)
    rw [if_neg h1, e]; simp

theorem within_ (a b c : Int) : impl_within.f a b c = some (decide (b ≤ a ∧ a ≤ c)) := by
  unfold impl_within.f
  by_cases h : a ≥ b
  · rw [if_pos h]; simp [show b ≤ a from h]
  · rw [if_neg h]; simp [show ¬ b ≤ a from h]

theorem check_ (a b : Bool) : impl_check.f a b = some (if a = true then (if b = true then 0 else 2) else 1) := by
  unfold impl_check.f; cases a <;> cases b <;> rfl

theorem outs_pts (l : List Int) (C : List (List Int)) (p : Nat → Int) : ∀ d, (∀ k, k < d → wrap64 (-(g2 (bst C l.length k) k l.length)) = p k) → outs C l.length d = pts l.length p d
  | 0, _ => rfl
  | d + 1, h => by rw [outs_succ, pts_succ, outs_pts l C p d (fun k hk => h k (by omega)), h d (by omega)]
theorem pt_ {l : List Int} {m w : Int} (h : okS l = true) (m0 : 0 ≤ m) (m1 : m ≤ 50) (w0 : 0 ≤ w) (w1 : w ≤ 1000) (hf : fea l m w) : ∃ p, IsPt l m w p ∧ outs (cb l.length (nx l.length) (fun k => rd l (k : Int)) w m) l.length l.length = pts l.length p l.length := by
  obtain ⟨c1, c2, c3⟩ := cb_ (seams_ h m0 m1) w w0 w1
  obtain ⟨d1, d2, d3⟩ := c3 hf
  exact ⟨lo (cb l.length (nx l.length) (fun k => rd l (k : Int)) w m) l.length, ⟨d1, d2⟩, outs_pts l _ _ _ (fun k hk => (d3 k (by omega)).2 hk)⟩
theorem SpecBestShifts_ (l : List Int) (hlen : l.length ≤ 1048576) (m : Int) : ∃ r : List Int × Int, Ev (fun k => spec_BestShifts.f k l m) r ∧ Ev (fun k => impl_BestShifts.f k l m) r ∧ r.1.length ≤ 1048576 ∧ (okS l = true → 0 ≤ m → m ≤ 50 → ∃ W p, IsLW l m W ∧ IsPt l m W p ∧ r = (pts l.length p l.length, 0)) := by
  by_cases h : okS l = true
  · by_cases c : 0 ≤ m ∧ m ≤ 50
    · obtain ⟨W, hW⟩ := lw_ h c.1
      obtain ⟨p, hp, ho⟩ := pt_ h c.1 c.2 hW.1 hW.2.1 hW.2.2.1
      obtain ⟨h1, h2, h3, h4⟩ := okS_says h
      refine ⟨(pts l.length p l.length, 0), ?_, ?_, by rw [pts_len]; exact hlen, fun _ _ _ => ⟨W, p, hW, hp, rfl⟩⟩
      · obtain ⟨K, hK⟩ := SpecLeast_ l m c.1 c.2 h W hW
        have hb := hp.cyc 0 (by omega)
        obtain ⟨K2, hK2⟩ := best_0 l m c.1 c.2 W hW.1 hW.2.1 h p hp (p 0 - -m).toNat (-m) (by omega) (by omega)
        refine ⟨K + K2 + 1048577, fun k hk => ?_⟩
        simp only [spec_BestShifts.f, spec_l19Code.f]
        rw [SpecOkS_ l hlen k (by omega), h]; simp only [Option.bind_some, if_true]
        rw [In_]; simp only [Option.bind_some, decide_eq_true_eq]
        rw [if_pos c]; simp only [Option.bind_some, if_true]
        rw [show spec_l19Least.f k l m = some W from hK k (by omega)]; simp only [Option.bind_some]
        rw [w64 (n := -m) (by omega) (by omega)]
        exact hK2 k (by omega)
      · obtain ⟨K, hK⟩ := ImplLeast_ l m h c.1 c.2 W hW
        refine ⟨K, fun k hk => ?_⟩
        simp only [impl_BestShifts.f]
        rw [ImplOkS_, h, within_]; simp only [Option.bind_some]
        rw [check_]; simp only [Option.bind_some, if_true, decide_eq_true_eq]
        rw [if_pos c]; simp only [if_true]
        rw [show impl_leastWorst.f k l m = some W from hK k hk]; simp only [Option.bind_some]
        rw [show impl_boundsFor.f l m W = some (cb l.length (nx l.length) (fun k => rd l (k : Int)) W m) from by unfold impl_boundsFor.f; rw [if_pos ⟨h1, h2⟩]]; simp only [Option.bind_some]
        rw [ho]
    · refine ⟨([], 2), ⟨1048577, fun k hk => ?_⟩, ⟨0, fun k hk => ?_⟩, by simp, fun _ a b => absurd ⟨a, b⟩ c⟩
      · simp only [spec_BestShifts.f, spec_l19Code.f]
        rw [SpecOkS_ l hlen k (by omega), h]; simp only [Option.bind_some, if_true]
        rw [In_]; simp only [Option.bind_some, decide_eq_true_eq]
        rw [if_neg c]; rfl
      · simp only [impl_BestShifts.f]
        rw [ImplOkS_, h, within_]; simp only [Option.bind_some]
        rw [check_]; simp only [Option.bind_some, if_true, decide_eq_true_eq]
        rw [if_neg c]; rfl
  · have h : okS l = false := by simpa using h
    refine ⟨([], 1), ⟨1048577, fun k hk => ?_⟩, ⟨0, fun k hk => ?_⟩, by simp, fun a => by rw [h] at a; cases a⟩
    · simp only [spec_BestShifts.f, spec_l19Code.f]
      rw [SpecOkS_ l hlen k (by omega), h]; rfl
    · simp only [impl_BestShifts.f]
      rw [ImplOkS_, h, within_]; simp only [Option.bind_some]
      rw [check_]; rfl

theorem toInts_l (l : List Int) (hl : l.length ≤ 1048576) : ∀ (d k : Nat) (i : Int) (a : List Int), (l.length : Int) - i = d → 0 ≤ i → a.length = l.length → (∀ j : Int, 0 ≤ j → j < i → rd a j = rd l j) → d < k → laws_toInt64S.l0 k l a i = some l := by
  intro d
  induction d with
  | zero =>
    intro k i a hd h0 ha hr hk
    obtain ⟨k, rfl⟩ : ∃ m, k = m + 1 := ⟨k - 1, by omega⟩
    simp only [laws_toInt64S.l0]; rw [if_neg (by omega)]
    congr 1
    exact rd_ext a l ha (fun j h1 h2 => hr j h1 (by omega))
  | succ d ih =>
    intro k i a hd h0 ha hr hk
    obtain ⟨k, rfl⟩ : ∃ m, k = m + 1 := ⟨k - 1, by omega⟩
    simp only [laws_toInt64S.l0]
    rw [if_pos (by omega), if_pos h0, if_pos (by omega), w64 (by omega) (by omega)]
    refine ih k (i + 1) _ (by omega) (by omega) (by simpa using ha) (fun j h1 h2 => ?_) (by omega)
    by_cases e : j = i
    · subst e; exact rd_same _ _ _ h0 (by omega)
    · rw [rd_other _ _ _ _ h0 h1 (by omega)]; exact hr j h1 (by omega)
theorem toInts_ (l : List Int) (hl : l.length ≤ 1048576) (k : Nat) (hk : 1048577 ≤ k) : laws_toInt64S.f k l = some l := by
  unfold laws_toInt64S.f
  rw [if_pos (by omega), if_pos (by simp; omega)]
  exact toInts_l l hl l.length k 0 _ (by omega) (by omega) (by simp) (fun j h1 h2 => by omega) (by omega)

theorem eqInts_l (l : List Int) (hl : l.length ≤ 1152921504606846976) : ∀ (d k : Nat) (i : Int), (l.length : Int) - i = d → 0 ≤ i → d < k → laws_eqInt64S.l0 k l l i = some true := by
  intro d
  induction d with
  | zero =>
    intro k i hd h0 hk
    obtain ⟨k, rfl⟩ : ∃ m, k = m + 1 := ⟨k - 1, by omega⟩
    simp only [laws_eqInt64S.l0]; rw [if_neg (by omega)]
  | succ d ih =>
    intro k i hd h0 hk
    obtain ⟨k, rfl⟩ : ∃ m, k = m + 1 := ⟨k - 1, by omega⟩
    simp only [laws_eqInt64S.l0]
    rw [if_pos (by omega), if_pos h0, if_pos (by omega), if_pos trivial, w64 (by omega) (by omega)]
    exact ih k (i + 1) (by omega) (by omega) (by omega)
theorem eqInts_ (l : List Int) (hl : l.length ≤ 1152921504606846976) (k : Nat) (hk : l.length < k) : laws_eqInt64S.f k l l = some true := by
  unfold laws_eqInt64S.f
  rw [if_pos rfl]; exact eqInts_l l hl l.length k 0 (by omega) (by omega) hk

theorem eqI_ (l : List Int) (hl : l.length ≤ 1048576) (k : Nat) (hk : 1048577 ≤ k) : laws_eqInt64S.f k l l = some true := eqInts_ l (by omega) k (by omega)

theorem rd_set_same (l : List Int) (i : Int) (v : Int) (h0 : 0 ≤ i) (h : i < l.length) : rd (l.set i.toNat v) i = v := by
  unfold rd; simp [List.getD_eq_getElem?_getD, List.getElem?_set, show i.toNat < l.length by omega]
theorem rd_set_other (l : List Int) (i j : Int) (v : Int) (h0 : 0 ≤ i) (h1 : 0 ≤ j) (h : i ≠ j) : rd (l.set i.toNat v) j = rd l j := by
  unfold rd; simp [List.getD_eq_getElem?_getD, List.getElem?_set, show ¬ i.toNat = j.toNat by omega]
theorem mark_l : ∀ (d k : Nat) (l : List Int) (i m : Int), (l.length : Int) - i = d → 0 ≤ i → l.length ≤ 1152921504606846976 → 0 ≤ m → m + d ≤ 4611686018427387904 → d < k → ∃ l', laws_markInt64S.l0 k l m i = some (m + d, l') ∧ l'.length = l.length ∧ (∀ j, i ≤ j → j < l.length → rd l' j = m + (j - i)) ∧ ∀ j, 0 ≤ j → j < i → rd l' j = rd l j := by
  intro d
  induction d with
  | zero =>
    intro k l i m hd h0 hl hm hm2 hk
    obtain ⟨k, rfl⟩ : ∃ m, k = m + 1 := ⟨k - 1, by omega⟩
    refine ⟨l, ?_, rfl, fun j h1 h2 => by omega, fun j _ _ => rfl⟩
    simp only [laws_markInt64S.l0]; rw [if_neg (by omega)]; simp
  | succ d ih =>
    intro k l i m hd h0 hl hm hm2 hk
    obtain ⟨k, rfl⟩ : ∃ m, k = m + 1 := ⟨k - 1, by omega⟩
    obtain ⟨l', h1, h2, h3, h4⟩ := ih k (l.set i.toNat m) (i + 1) (m + 1) (by simp; omega) (by omega) (by simpa using hl) (by omega) (by omega) (by omega)
    refine ⟨l', ?_, by simpa using h2, fun j g1 g2 => ?_, fun j g1 g2 => ?_⟩
    · simp only [laws_markInt64S.l0]
      rw [if_pos (by omega), if_pos h0, w64 (n := m + 1) (by omega) (by omega), w64 (n := i + 1) (by omega) (by omega), h1]
      congr 2; omega
    · by_cases e : j = i
      · subst e; rw [h4 j h0 (by omega), rd_set_same _ _ _ h0 (by omega)]; omega
      · rw [h3 j (by omega) (by simpa using g2)]; omega
    · rw [h4 j g1 (by omega), rd_set_other _ _ _ _ h0 g1 (by omega)]
theorem held_l (l : List Int) (hl : l.length ≤ 1152921504606846976) : ∀ (d k : Nat) (i m : Int), (l.length : Int) - i = d → 0 ≤ i → 0 ≤ m → m + d ≤ 4611686018427387904 → d < k → (∀ j, i ≤ j → j < l.length → rd l j = m + (j - i)) → laws_heldInt64S.l0 k l m i = some (m + d) := by
  intro d
  induction d with
  | zero =>
    intro k i m hd h0 hm hm2 hk hr
    obtain ⟨k, rfl⟩ : ∃ m, k = m + 1 := ⟨k - 1, by omega⟩
    simp only [laws_heldInt64S.l0]; rw [if_neg (by omega)]; simp
  | succ d ih =>
    intro k i m hd h0 hm hm2 hk hr
    obtain ⟨k, rfl⟩ : ∃ m, k = m + 1 := ⟨k - 1, by omega⟩
    simp only [laws_heldInt64S.l0]
    rw [if_pos (by omega), if_pos h0, if_pos (by rw [hr i (by omega) (by omega)]; omega), w64 (n := m + 1) (by omega) (by omega), w64 (n := i + 1) (by omega) (by omega), ih k (i + 1) (m + 1) (by omega) (by omega) (by omega) (by omega) (by omega) (fun j g1 g2 => by rw [hr j (by omega) g2]; omega)]
    congr 1; omega
theorem mark_held (l : List Int) (hl : l.length ≤ 1152921504606846976) (k : Nat) (hk : l.length < k) (k' : Nat) (hk' : l.length < k') (k'' : Nat) (hk'' : l.length < k'') : ∃ l', laws_markInt64S.f k l 1 = some (1 + (l.length : Int), l') ∧ laws_heldInt64S.f k' l' 1 = some (1 + (l.length : Int)) ∧ laws_heldInt64S.f k'' l' 1 = some (1 + (l.length : Int)) := by
  obtain ⟨l', h1, h2, h3, h4⟩ := mark_l l.length k l 0 1 (by omega) (by omega) hl (by omega) (by omega) hk
  have hh : ∀ k, l.length < k → laws_heldInt64S.l0 k l' 1 0 = some (1 + (l.length : Int)) := fun k hk => held_l l' (by omega) l.length k 0 1 (by omega) (by omega) (by omega) (by omega) hk (fun j g1 g2 => h3 j g1 (by omega))
  refine ⟨l', ?_, ?_, ?_⟩
  · unfold laws_markInt64S.f; exact h1
  · unfold laws_heldInt64S.f; exact hh k' hk'
  · unfold laws_heldInt64S.f; exact hh k'' hk''

theorem mkI_ (l : List Int) (hl : l.length ≤ 1048576) (m : Int) (h0 : 0 ≤ m) (h1 : m ≤ 1000000000) : ∃ l', ∀ k, 1048577 ≤ k → laws_markInt64S.f k l m = some (m + (l.length : Int), l') := by
  obtain ⟨l', h, _⟩ := mark_l l.length 1048577 l 0 m (by omega) (by omega) (by omega) (by omega) (by omega) (by omega)
  refine ⟨l', fun k hk => ?_⟩
  exact at_rounds (g := fun k => laws_markInt64S.f k l m) (fun k => laws_markInt64S.mono _ _ _) hk (by unfold laws_markInt64S.f; exact h)
theorem mkH_ (l : List Int) (hl : l.length ≤ 1048576) : ∃ l', (∀ k, 1048577 ≤ k → laws_markInt64S.f k l 1 = some (1 + (l.length : Int), l')) ∧ ∀ k, 1048577 ≤ k → laws_heldInt64S.f k l' 1 = some (1 + (l.length : Int)) := by
  obtain ⟨l', h1, h2, h3⟩ := mark_held l (by omega) 1048577 (by omega) 1048577 (by omega) 1048577 (by omega)
  refine ⟨l', fun k hk => ?_, fun k hk => ?_⟩
  · exact at_rounds (g := fun k => laws_markInt64S.f k l 1) (fun k => laws_markInt64S.mono _ _ _) hk h1
  · exact at_rounds (g := fun k => laws_heldInt64S.f k l' 1) (fun k => laws_heldInt64S.mono _ _ _) hk h2

theorem FnExactBestShifts : laws_FnExactBestShifts.Pure := by
  intro l m
  intros
  by_cases hb : (l.length : Int) > 1048576
  · refine ⟨0, ?_⟩
    unfold laws_FnExactBestShifts.f
    rw [if_pos hb]
  have hl : l.length ≤ 1048576 := by omega
  obtain ⟨r, ⟨K1, h1⟩, ⟨K2, h2⟩, hrl, _⟩ := SpecBestShifts_ l hl m
  have hT := toInts_ l hl
  have hE := eqI_ l hl
  have hS : ∀ k, K1 ≤ k → spec_BestShifts.f k l m = some r := h1
  have hI : ∀ k, K2 ≤ k → impl_BestShifts.f k l m = some r := h2
  clear h1 h2
  refine ⟨K1 + K2 + 1048800, ?_⟩
  unfold laws_FnExactBestShifts.f
  obtain ⟨R, c⟩ := r
  have hER := eqI_ R hrl
  obtain ⟨l', hM⟩ := mkI_ l hl 1 (by omega) (by omega)
  obtain ⟨R', hMR, hH⟩ := mkH_ R hrl
  have n1 : ¬ (1 + (l.length : Int) < 0) := by omega
  have n2 : ¬ (1 + (R.length : Int) < 0) := by omega
  rw [if_neg hb, hT _ (by omega)]; simp only [Option.bind_some]
  rw [hS _ (by omega)]; simp only [Option.bind_some]
  rw [hI _ (by omega)]; simp only [Option.bind_some]
  rw [hER _ (by omega)]; simp only [Option.bind_some, if_true, laws_FnExactBestShifts.j0, bne_self_eq_false, Bool.false_eq_true, if_false]
  rw [hT _ (by omega)]; simp only [Option.bind_some]
  rw [hE _ (by omega)]; simp only [Option.bind_some, if_true]
  rw [hM _ (by omega)]; simp only [Option.bind_some]
  rw [if_neg n1, hER _ (by omega)]; simp only [Option.bind_some, if_true, laws_FnExactBestShifts.j1, bne_self_eq_false, Bool.false_eq_true, if_false]
  rw [hMR _ (by omega)]; simp only [Option.bind_some]
  rw [hH _ (by omega)]; simp only [Option.bind_some]
  rw [if_neg n2]; simp only [if_true]; rw [hT _ (by omega)]; simp only [Option.bind_some]
  rw [hI _ (by omega)]; simp only [Option.bind_some]
  rw [hER _ (by omega)]; simp only [Option.bind_some, if_true, laws_FnExactBestShifts.j2, bne_self_eq_false, Bool.false_eq_true, if_false]
  rw [hH _ (by omega)]; simp only [Option.bind_some]
  rw [if_neg n2]; simp

end Go.Proofs.Ytcgcmnebenllcaa.Pure
