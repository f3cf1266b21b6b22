/- For all states and copies the program's RepairsFor answers as the reference's does, in memory of its own. No condition. -/
import Derived.Test.YtfajacoagaamlaaQFnExactRepairsForx4
import Derived.Test.YtfajacoagaamlaaBase
namespace Go.Proofs.Ytfajacoagaamlaa.Pure
open Go Go.RowKit Go.Proofs.Ytfajacoagaamlaa.QFnExactRepairsFor Go.Proofs.YtfajacoagaamlaaW.PrintWords Go.Proofs.YtfajacoagaamlaaW.PrintLast Go.Proofs.YtfajacoagaamlaaW.PrintMore Go.Proofs.Ytfajacoagaamlaa.Base
set_option linter.unusedVariables false
set_option linter.unusedSimpArgs false

/-- From some number of rounds on the answer is r. -/
def Ev {α : Type} (g : Nat → Option α) (r : α) : Prop := ∃ K, ∀ k, K ≤ k → g k = some r
theorem Ev.step {α : Type} {g h : Nat → Option α} {r : α} (e : ∀ k, g (k + 1) = h k) (hr : Ev h r) : Ev g r := by
  obtain ⟨K, hK⟩ := hr
  refine ⟨K + 1, fun k hk => ?_⟩
  obtain ⟨k, rfl⟩ : ∃ m, k = m + 1 := ⟨k - 1, by omega⟩
  rw [e]; exact hK k (by omega)
theorem Ev.now {α : Type} {g : Nat → Option α} {r : α} (e : ∀ k, g (k + 1) = some r) : Ev g r := Ev.step (h := fun _ => some r) e ⟨0, fun _ _ => rfl⟩
theorem Ev.bind {α β : Type} {c : Nat → Option α} {f : Nat → α → Option β} {t : α} {r : β} (hc : Ev c t) (hf : Ev (fun k => f k t) r) : Ev (fun k => (c k).bind (f k)) r := by
  obtain ⟨K, hK⟩ := hc
  obtain ⟨L, hL⟩ := hf
  exact ⟨K + L, fun k hk => by show (c k).bind (f k) = some r; rw [hK k (by omega)]; exact hL k (by omega)⟩
theorem Ev.eq {α : Type} {g h : Nat → Option α} {r : α} (e : ∀ k, g k = h k) (hr : Ev h r) : Ev g r := by
  obtain ⟨K, hK⟩ := hr
  exact ⟨K, fun k hk => by rw [e]; exact hK k hk⟩

theorem gd_ext {α : Type} (z : α) (a l : List α) (h : a.length = l.length) (h2 : ∀ j : Int, 0 ≤ j → j < l.length → a.getD j.toNat z = l.getD j.toNat z) : a = l := by
  apply List.ext_getElem h
  intro n h1 h3
  have := h2 n (by omega) (by omega)
  rw [List.getD_eq_getElem?_getD, List.getD_eq_getElem?_getD, Int.toNat_natCast, List.getElem?_eq_getElem h1, List.getElem?_eq_getElem h3] at this
  exact this
theorem gd_same {α : Type} (z : α) (l : List α) (i : Int) (v : α) (h0 : 0 ≤ i) (h : i < l.length) : (l.set i.toNat v).getD i.toNat z = v := by
  simp [List.getD_eq_getElem?_getD, List.getElem?_set, show i.toNat < l.length by omega]
theorem gd_other {α : Type} (z : α) (l : List α) (i j : Int) (v : α) (h0 : 0 ≤ i) (h1 : 0 ≤ j) (h : i ≠ j) : (l.set i.toNat v).getD j.toNat z = l.getD j.toNat z := by
  simp [List.getD_eq_getElem?_getD, List.getElem?_set, show ¬ i.toNat = j.toNat by omega]
theorem gd_in {α : Type} (z : α) (l : List α) (i : Int) (h0 : 0 ≤ i) (h : i < l.length) : l.getD i.toNat z ∈ l := by
  rw [List.getD_eq_getElem?_getD, List.getElem?_eq_getElem (by omega)]
  exact List.getElem_mem _
theorem gd_map {α β : Type} (z : α) (y : β) (f : α → β) (l : List α) (i : Int) (h0 : 0 ≤ i) (h : i < l.length) : (l.map f).getD i.toNat y = f (l.getD i.toNat z) := by
  rw [List.getD_eq_getElem?_getD, List.getD_eq_getElem?_getD, List.getElem?_map, List.getElem?_eq_getElem (by omega)]
  rfl
theorem size64 {n : Nat} (h : n ≤ maxLen) : (n : Int) ≤ 9223372036854775807 := by
  have e : maxLen = 9223372036854775807 := by decide
  omega

theorem toInts_l (l : List Int) (hl : l.length ≤ 1048576) : ∀ (d k : Nat) (i : Int) (a : List Int), (l.length : Int) - i = d → 0 ≤ i → a.length = l.length → (∀ j : Int, 0 ≤ j → j < i → rd a j = rd l j) → d < k → laws_toInt64S.l0 k l a i = some l := by
  intro d
  induction d with
  | zero =>
    intro k i a hd h0 ha hr hk
    obtain ⟨k, rfl⟩ : ∃ m, k = m + 1 := ⟨k - 1, by omega⟩
    simp only [laws_toInt64S.l0]; rw [if_neg (by omega)]
    congr 1
    exact rd_ext a l ha (fun j h1 h2 => hr j h1 (by omega))
  | succ d ih =>
    intro k i a hd h0 ha hr hk
    obtain ⟨k, rfl⟩ : ∃ m, k = m + 1 := ⟨k - 1, by omega⟩
    simp only [laws_toInt64S.l0]
    rw [if_pos (by omega), if_pos h0, if_pos (by omega), w64 (by omega) (by omega)]
    refine ih k (i + 1) _ (by omega) (by omega) (by simpa using ha) (fun j h1 h2 => ?_) (by omega)
    by_cases e : j = i
    · subst e; exact rd_same _ _ _ h0 (by omega)
    · rw [rd_other _ _ _ _ h0 h1 (by omega)]; exact hr j h1 (by omega)
theorem toInts_ (l : List Int) (hl : l.length ≤ 1048576) (k : Nat) (hk : 1048577 ≤ k) : laws_toInt64S.f k l = some l := by
  unfold laws_toInt64S.f
  rw [if_pos (by omega), if_pos (by simp; omega)]
  exact toInts_l l hl l.length k 0 _ (by omega) (by omega) (by simp) (fun j h1 h2 => by omega) (by omega)

theorem eqInts_l (l : List Int) (hl : l.length ≤ 1152921504606846976) : ∀ (d k : Nat) (i : Int), (l.length : Int) - i = d → 0 ≤ i → d < k → laws_eqInt64S.l0 k l l i = some true := by
  intro d
  induction d with
  | zero =>
    intro k i hd h0 hk
    obtain ⟨k, rfl⟩ : ∃ m, k = m + 1 := ⟨k - 1, by omega⟩
    simp only [laws_eqInt64S.l0]; rw [if_neg (by omega)]
  | succ d ih =>
    intro k i hd h0 hk
    obtain ⟨k, rfl⟩ : ∃ m, k = m + 1 := ⟨k - 1, by omega⟩
    simp only [laws_eqInt64S.l0]
    rw [if_pos (by omega), if_pos h0, if_pos (by omega), if_pos trivial, w64 (by omega) (by omega)]
    exact ih k (i + 1) (by omega) (by omega) (by omega)
theorem eqInts_ (l : List Int) (hl : l.length ≤ 1152921504606846976) (k : Nat) (hk : l.length < k) : laws_eqInt64S.f k l l = some true := by
  unfold laws_eqInt64S.f
  rw [if_pos rfl]; exact eqInts_l l hl l.length k 0 (by omega) (by omega) hk

theorem eqI_ (l : List Int) (hl : l.length ≤ 1048576) (k : Nat) (hk : 1048577 ≤ k) : laws_eqInt64S.f k l l = some true := eqInts_ l (by omega) k (by omega)

theorem rd_set_same (l : List Int) (i : Int) (v : Int) (h0 : 0 ≤ i) (h : i < l.length) : rd (l.set i.toNat v) i = v := by
  unfold rd; simp [List.getD_eq_getElem?_getD, List.getElem?_set, show i.toNat < l.length by omega]
theorem rd_set_other (l : List Int) (i j : Int) (v : Int) (h0 : 0 ≤ i) (h1 : 0 ≤ j) (h : i ≠ j) : rd (l.set i.toNat v) j = rd l j := by
  unfold rd; simp [List.getD_eq_getElem?_getD, List.getElem?_set, show ¬ i.toNat = j.toNat by omega]
theorem mark_l : ∀ (d k : Nat) (l : List Int) (i m : Int), (l.length : Int) - i = d → 0 ≤ i → l.length ≤ 1152921504606846976 → 0 ≤ m → m + d ≤ 4611686018427387904 → d < k → ∃ l', laws_markInt64S.l0 k l m i = some (m + d, l') ∧ l'.length = l.length ∧ (∀ j, i ≤ j → j < l.length → rd l' j = m + (j - i)) ∧ ∀ j, 0 ≤ j → j < i → rd l' j = rd l j := by
  intro d
  induction d with
  | zero =>
    intro k l i m hd h0 hl hm hm2 hk
    obtain ⟨k, rfl⟩ : ∃ m, k = m + 1 := ⟨k - 1, by omega⟩
    refine ⟨l, ?_, rfl, fun j h1 h2 => by omega, fun j _ _ => rfl⟩
    simp only [laws_markInt64S.l0]; rw [if_neg (by omega)]; simp
  | succ d ih =>
    intro k l i m hd h0 hl hm hm2 hk
    obtain ⟨k, rfl⟩ : ∃ m, k = m + 1 := ⟨k - 1, by omega⟩
    obtain ⟨l', h1, h2, h3, h4⟩ := ih k (l.set i.toNat m) (i + 1) (m + 1) (by simp; omega) (by omega) (by simpa using hl) (by omega) (by omega) (by omega)
    refine ⟨l', ?_, by simpa using h2, fun j g1 g2 => ?_, fun j g1 g2 => ?_⟩
    · simp only [laws_markInt64S.l0]
      rw [if_pos (by omega), if_pos h0, w64 (n := m + 1) (by omega) (by omega), w64 (n := i + 1) (by omega) (by omega), h1]
      congr 2; omega
    · by_cases e : j = i
      · subst e; rw [h4 j h0 (by omega), rd_set_same _ _ _ h0 (by omega)]; omega
      · rw [h3 j (by omega) (by simpa using g2)]; omega
    · rw [h4 j g1 (by omega), rd_set_other _ _ _ _ h0 g1 (by omega)]

theorem mkI_ (l : List Int) (hl : l.length ≤ 1048576) (m : Int) (h0 : 0 ≤ m) (h1 : m ≤ 1000000000) : ∃ l', ∀ k, 1048577 ≤ k → laws_markInt64S.f k l m = some (m + (l.length : Int), l') := by
  obtain ⟨l', h, _⟩ := mark_l l.length 1048577 l 0 m (by omega) (by omega) (by omega) (by omega) (by omega) (by omega)
  refine ⟨l', fun k hk => ?_⟩
  exact at_rounds (g := fun k => laws_markInt64S.f k l m) (fun k => laws_markInt64S.mono _ _ _) hk (by unfold laws_markInt64S.f; exact h)

def tot (l : List (List Int)) : Nat := (l.map List.length).sum
theorem tot_cons (x : List Int) (l : List (List Int)) : tot (x :: l) = x.length + tot l := by simp [tot]
theorem tot_mem : ∀ (l : List (List Int)) (x : List Int), x ∈ l → x.length ≤ tot l
  | y :: l, x, h => by
    rw [tot_cons]
    rcases List.mem_cons.1 h with rfl | h
    · omega
    · have := tot_mem l x h; omega
theorem gd_drop {α : Type} (z : α) (l : List α) (i : Int) (h0 : 0 ≤ i) (h : i < l.length) : l.drop i.toNat = l.getD i.toNat z :: l.drop (i + 1).toNat := by
  rw [List.drop_eq_getElem_cons (show i.toNat < l.length by omega), List.getD_eq_getElem?_getD, List.getElem?_eq_getElem (show i.toNat < l.length by omega), show (i + 1).toNat = i.toNat + 1 by omega]; rfl
theorem rdL_drop (l : List (List Int)) (i : Int) (h0 : 0 ≤ i) (h : i < l.length) : l.drop i.toNat = rd_L2 l i :: l.drop (i + 1).toNat := gd_drop [] l i h0 h
theorem rdL_mem (l : List (List Int)) (i : Int) (h0 : 0 ≤ i) (h : i < l.length) : rd_L2 l i ∈ l := by
  have := rdL_drop l i h0 h
  have hm : rd_L2 l i ∈ l.drop i.toNat := by rw [this]; exact List.mem_cons_self
  exact List.mem_of_mem_drop hm
theorem szSS_l (l : List (List Int)) (hn : l.length ≤ 1048576) (hb : ∀ x ∈ l, x.length ≤ maxLen) : ∀ (d : Nat) (i m : Int), (l.length : Int) - i = d → 0 ≤ i → 0 ≤ m → m ≤ 1048576 → ∃ r, r ≤ 1048576 ∧ (0 ≤ r → (tot (l.drop i.toNat) : Int) ≤ m) ∧ Ev (fun k => laws_szInt64SS.l0 k l m i) r := by
  intro d
  induction d with
  | zero =>
    intro i m hd h0 hm0 hm1
    refine ⟨m, hm1, fun _ => by rw [List.drop_eq_nil_of_le (by omega)]; simp [tot]; omega, Ev.now (fun k => ?_)⟩
    simp only [laws_szInt64SS.l0]
    rw [if_neg (by omega)]
  | succ d ih =>
    intro i m hd h0 hm0 hm1
    have hx := size64 (hb _ (rdL_mem l i h0 (by omega)))
    have e : ∀ k, laws_szInt64SS.l0 (k + 1) l m i = if m - ((rd_L2 l i).length : Int) < 0 then some (-1) else laws_szInt64SS.l0 k l (m - ((rd_L2 l i).length : Int)) (i + 1) := by
      intro k
      simp only [laws_szInt64SS.l0]
      rw [if_pos (by omega), if_pos h0]
      unfold laws_szInt64S.f
      rw [w64 (n := m - ((rd_L2 l i).length : Int)) (by omega) (by omega), w64 (n := i + 1) (by omega) (by omega)]
      by_cases c : m - ((rd_L2 l i).length : Int) < 0
      · rw [if_pos c, if_pos c]; rfl
      · rw [if_neg c, if_neg c]; simp only [Option.bind_some]; rw [if_neg c]
    by_cases c : m - ((rd_L2 l i).length : Int) < 0
    · exact ⟨-1, by omega, fun h => by omega, Ev.now (fun k => by rw [e, if_pos c])⟩
    · obtain ⟨r, r1, r2, r3⟩ := ih (i + 1) (m - ((rd_L2 l i).length : Int)) (by omega) (by omega) (by omega) (by omega)
      refine ⟨r, r1, fun h => ?_, Ev.step (fun k => by rw [e, if_neg c]) r3⟩
      have := r2 h
      rw [rdL_drop l i h0 (by omega), tot_cons]; omega
theorem szSS_ (l : List (List Int)) (hm : l.length ≤ maxLen) (hb : ∀ x ∈ l, x.length ≤ maxLen) : ∃ r, (0 ≤ r → l.length ≤ 1048576 ∧ tot l ≤ 1048576) ∧ Ev (fun k => laws_szInt64SS.f k l 1048576) r := by
  have := size64 hm
  by_cases c : (1048576 : Int) - (l.length : Int) < 0
  · refine ⟨-1, fun h => by omega, ⟨0, fun k _ => ?_⟩⟩
    unfold laws_szInt64SS.f
    rw [w64 (by omega) (by omega)]; exact if_pos c
  · obtain ⟨r, r1, r2, r3⟩ := szSS_l l (by omega) hb l.length 0 ((1048576 : Int) - (l.length : Int)) (by omega) (by omega) (by omega) (by omega)
    refine ⟨r, fun h => ?_, Ev.eq (fun k => ?_) r3⟩
    · have := r2 h
      simp at this
      omega
    · show laws_szInt64SS.f k l 1048576 = laws_szInt64SS.l0 k l ((1048576 : Int) - (l.length : Int)) 0
      unfold laws_szInt64SS.f
      rw [w64 (by omega) (by omega), if_neg c]
theorem toSS_l (l : List (List Int)) (hn : l.length ≤ 1048576) (ht : tot l ≤ 1048576) : ∀ (d : Nat) (i : Int) (a : List (List Int)), (l.length : Int) - i = d → 0 ≤ i → a.length = l.length → (∀ j : Int, 0 ≤ j → j < i → a.getD j.toNat [] = l.getD j.toNat []) → Ev (fun k => laws_toInt64SS.l0 k l a i) l := by
  intro d
  induction d with
  | zero =>
    intro i a hd h0 ha hr
    refine Ev.now (fun k => ?_)
    simp only [laws_toInt64SS.l0]; rw [if_neg (by omega)]
    congr 1
    exact gd_ext [] a l ha (fun j h1 h2 => hr j h1 (by omega))
  | succ d ih =>
    intro i a hd h0 ha hr
    have hx := tot_mem l _ (rdL_mem l i h0 (by omega))
    have e : ∀ k, laws_toInt64SS.l0 (k + 1) l a i = (laws_toInt64S.f k (rd_L2 l i)).bind fun t => laws_toInt64SS.l0 k l (a.set i.toNat t) (i + 1) := by
      intro k
      simp only [laws_toInt64SS.l0]
      rw [if_pos (by omega), if_pos h0]
      congr 1
      funext t
      rw [if_pos (by omega), w64 (by omega) (by omega)]
    refine Ev.step e (Ev.bind (t := rd_L2 l i) ⟨1048577, fun k hk => toInts_ _ (by omega) k hk⟩ (ih (i + 1) _ (by omega) (by omega) (by simpa using ha) (fun j h1 h2 => ?_)))
    by_cases e2 : j = i
    · subst e2; rw [gd_same _ _ _ _ h0 (by omega)]; rfl
    · rw [gd_other _ _ _ _ _ h0 h1 (by omega)]; exact hr j h1 (by omega)
theorem toSS_ (l : List (List Int)) (hn : l.length ≤ 1048576) (ht : tot l ≤ 1048576) : Ev (fun k => laws_toInt64SS.f k l) l := by
  refine Ev.eq (fun k => ?_) (toSS_l l hn ht l.length 0 (List.replicate ((l.length : Int) : Int).toNat []) (by omega) (by omega) (by simp) (fun j h1 h2 => by omega))
  unfold laws_toInt64SS.f
  rw [if_pos (by omega), if_pos (by simp; omega)]
theorem eqSS_l (l : List (List Int)) (hn : l.length ≤ 1048576) (ht : tot l ≤ 1048576) : ∀ (d : Nat) (i : Int), (l.length : Int) - i = d → 0 ≤ i → Ev (fun k => laws_eqInt64SS.l0 k l l i) true := by
  intro d
  induction d with
  | zero =>
    intro i hd h0
    refine Ev.now (fun k => ?_)
    simp only [laws_eqInt64SS.l0]; rw [if_neg (by omega)]
  | succ d ih =>
    intro i hd h0
    have hx := tot_mem l _ (rdL_mem l i h0 (by omega))
    have e : ∀ k, laws_eqInt64SS.l0 (k + 1) l l i = (laws_eqInt64S.f k (rd_L2 l i) (rd_L2 l i)).bind fun t => if t = true then laws_eqInt64SS.l0 k l l (i + 1) else some false := by
      intro k
      simp only [laws_eqInt64SS.l0]
      rw [if_pos (by omega), if_pos h0, if_pos (by omega), w64 (by omega) (by omega)]
    refine Ev.step e (Ev.bind (t := true) ⟨1048577, fun k hk => eqI_ _ (by omega) k hk⟩ ?_)
    exact Ev.eq (fun k => by rw [if_pos rfl]) (ih (i + 1) (by omega) (by omega))
theorem eqSS_ (l : List (List Int)) (hn : l.length ≤ 1048576) (ht : tot l ≤ 1048576) : Ev (fun k => laws_eqInt64SS.f k l l) true := by
  refine Ev.eq (fun k => ?_) (eqSS_l l hn ht l.length 0 (by omega) (by omega))
  unfold laws_eqInt64SS.f
  rw [if_pos rfl]
theorem mkSS_l : ∀ (l : List (List Int)) (x : Int), 0 ≤ x → x + tot l ≤ 100000000 → tot l ≤ 1048576 → Ev (fun k => mkss k l x) (x + tot l)
  | [], x, _, _, _ => ⟨0, fun k _ => by simp [mkss, tot]⟩
  | r :: rs, x, h0, h1, h2 => by
    rw [tot_cons] at h1 h2 ⊢
    obtain ⟨r', hM⟩ := mkI_ r (by omega) x h0 (by omega)
    have ih := mkSS_l rs (x + r.length) (by omega) (by omega) (by omega)
    refine Ev.eq (h := fun k => (laws_markInt64S.f k r x).bind fun t => mkss k rs t.1) (fun k => rfl) (Ev.bind (t := (x + (r.length : Int), r')) ⟨1048577, fun k hk => hM k (by omega)⟩ ?_)
    rw [show x + ((r.length + tot rs : Nat) : Int) = x + (r.length : Int) + (tot rs : Int) by omega]
    exact ih
theorem mkSS_ (l : List (List Int)) (hn : l.length ≤ 1048576) (ht : tot l ≤ 1048576) (x : Int) (h0 : 0 ≤ x) (h1 : x ≤ 10000000) : Ev (fun k => laws_markInt64SS.f k l x) (x + tot l) :=
  Ev.eq (fun k => by unfold laws_markInt64SS.f; rw [if_pos hn]) (mkSS_l l x h0 (by omega) ht)

theorem In_ (a b c : Int) : spec_l00In.f a b c = some (decide (b ≤ a ∧ a ≤ c)) := by
  unfold spec_l00In.f
  by_cases h : a ≥ b
  · rw [if_pos h]; simp [show b ≤ a from h]
  · rw [if_neg h]; simp [show ¬ b ≤ a from h]

def okT (l : List Int) : Bool := decide ((l.length : Int) ≤ 40) && l.all fun x => decide (0 ≤ x ∧ x ≤ 3)
theorem okT_says {l : List Int} (h : okT l = true) : l.length ≤ 40 ∧ (∀ x ∈ l, 0 ≤ x ∧ x ≤ 3) ∧ ∀ i : Int, 0 ≤ i → i < l.length → 0 ≤ rd l i ∧ rd l i ≤ 3 := by
  unfold okT at h
  simp only [Bool.and_eq_true, decide_eq_true_eq, List.all_eq_true] at h
  exact ⟨by omega, h.2, fun i h0 h1 => h.2 _ (rd_in l i h0 h1)⟩

theorem specOkT_l (l : List Int) (hl : l.length ≤ 1048576) : ∀ (d k : Nat) (i : Int), (l.length : Int) - i = d → 0 ≤ i → d < k → spec_l22Ok.l0 k l i = some ((l.drop i.toNat).all (fun x => decide (0 ≤ x ∧ x ≤ 3)) && decide ((l.length : Int) ≤ 40)) := by
  intro d
  induction d with
  | zero =>
    intro k i hd h0 hk
    obtain ⟨k, rfl⟩ : ∃ m, k = m + 1 := ⟨k - 1, by omega⟩
    simp only [spec_l22Ok.l0]; rw [if_neg (by omega), List.drop_eq_nil_of_le (by omega)]; simp
  | succ d ih =>
    intro k i hd h0 hk
    obtain ⟨k, rfl⟩ : ∃ m, k = m + 1 := ⟨k - 1, by omega⟩
    simp only [spec_l22Ok.l0]
    rw [if_pos (by omega), if_pos h0, In_, drop_rd l i h0 (by omega), w64 (by omega) (by omega), ih k (i + 1) (by omega) (by omega) (by omega)]
    simp only [Option.bind_some, List.all_cons]
    by_cases c : 0 ≤ rd l i ∧ rd l i ≤ 3
    · simp [c]
    · simp [c]
theorem SpecOkT_ (l : List Int) (hl : l.length ≤ 1048576) (k : Nat) (hk : l.length < k) : spec_l22Ok.f k l = some (okT l) := by
  unfold spec_l22Ok.f okT
  rw [specOkT_l l hl l.length k 0 (by omega) (by omega) hk]
  simp [Bool.and_comm]

theorem ImplOkT_ (l : List Int) : impl_ValidStates.f l = some (okT l) := by
  unfold impl_ValidStates.f impl_allWithin.f okT
  by_cases h2 : (l.length : Int) ≤ 40
  · rw [if_pos h2, decide_eq_true h2]; simp
  · rw [if_neg h2, decide_eq_false h2]; simp

def codeC (s : List Int) (c : List (List Int)) : Int := if okT s = true ∧ c.all okT = true then (if (c.all fun x => decide (x.length = s.length)) = true ∧ c.length ≤ 8 then 0 else 2) else 1
theorem ImplCodeC_ (s : List Int) (c : List (List Int)) : impl_copiesCode.f s c = some (codeC s c) := by
  have hv : vst = okT := by
    funext x
    have := ImplOkT_ x
    unfold vst; rw [this]; rfl
  unfold impl_copiesCode.f codeC impl_check.f
  rw [hv]
  have e : (c.all fun x => decide ((x.length : Int) = (s.length : Int))) = c.all fun x => decide (x.length = s.length) := by
    congr 1; funext x; exact decide_eq_decide.2 (by omega)
  rw [e]
  by_cases h1 : okT s = true <;> by_cases h2 : c.all okT = true <;> by_cases h3 : (c.all fun x => decide (x.length = s.length)) = true <;> by_cases h4 : c.length ≤ 8 <;> simp [h1, h2, h3, h4, show ((c.length : Int) ≤ 8) ↔ c.length ≤ 8 by omega]
theorem specC_1 (s : List Int) (c : List (List Int)) (hn : c.length ≤ 1048576) : ∀ (d : Nat) (i : Int), (c.length : Int) - i = d → 0 ≤ i → Ev (fun k => spec_l22Copies.l1 k s c i) (if ((c.drop i.toNat).all fun x => decide (x.length = s.length)) = true ∧ c.length ≤ 8 then 0 else 2) := by
  intro d
  induction d with
  | zero =>
    intro i hd h0
    refine Ev.now (fun k => ?_)
    simp only [spec_l22Copies.l1]
    rw [if_neg (by omega), List.drop_eq_nil_of_le (by omega)]
    by_cases h : c.length ≤ 8
    · rw [if_neg (by omega), if_pos ⟨by simp, h⟩]
    · rw [if_pos (by omega), if_neg (fun q => h q.2)]
  | succ d ih =>
    intro i hd h0
    rw [rdL_drop c i h0 (by omega), List.all_cons]
    have e : ∀ k, spec_l22Copies.l1 (k + 1) s c i = if (rd_L2 c i).length = s.length then spec_l22Copies.l1 k s c (i + 1) else some 2 := by
      intro k
      simp only [spec_l22Copies.l1]
      rw [if_pos (by omega), if_pos h0, w64 (by omega) (by omega)]
      by_cases q : (rd_L2 c i).length = s.length
      · rw [if_pos (by omega), if_pos q]
      · rw [if_neg (by omega), if_neg q]
    by_cases q : (rd_L2 c i).length = s.length
    · refine Ev.step (h := fun k => spec_l22Copies.l1 k s c (i + 1)) (fun k => by rw [e, if_pos q]) ?_
      rw [decide_eq_true q, Bool.true_and]
      exact ih (i + 1) (by omega) (by omega)
    · refine Ev.now (fun k => ?_)
      rw [e, if_neg q, decide_eq_false q, Bool.false_and, if_neg (by simp)]
theorem specC_0 (s : List Int) (c : List (List Int)) (hn : c.length ≤ 1048576) (ht : tot c ≤ 1048576) : ∀ (d : Nat) (i : Int), (c.length : Int) - i = d → 0 ≤ i → Ev (fun k => spec_l22Copies.l0 k s c i) (if ((c.drop i.toNat).all okT) = true then (if (c.all fun x => decide (x.length = s.length)) = true ∧ c.length ≤ 8 then 0 else 2) else 1) := by
  intro d
  induction d with
  | zero =>
    intro i hd h0
    rw [List.drop_eq_nil_of_le (by omega), if_pos (by simp)]
    refine Ev.step (h := fun k => spec_l22Copies.l1 k s c 0) (fun k => ?_) (specC_1 s c hn c.length 0 (by omega) (by omega))
    simp only [spec_l22Copies.l0]
    rw [if_neg (by omega)]
  | succ d ih =>
    intro i hd h0
    have hx := tot_mem c _ (rdL_mem c i h0 (by omega))
    rw [rdL_drop c i h0 (by omega), List.all_cons]
    have e : ∀ k, spec_l22Copies.l0 (k + 1) s c i = (spec_l22Ok.f k (rd_L2 c i)).bind fun t => if t = true then spec_l22Copies.l0 k s c (i + 1) else some 1 := by
      intro k
      simp only [spec_l22Copies.l0]
      rw [if_pos (by omega), if_pos h0, w64 (by omega) (by omega)]
    refine Ev.step e (Ev.bind (t := okT (rd_L2 c i)) ⟨1048577, fun k hk => SpecOkT_ _ (by omega) k (by omega)⟩ ?_)
    by_cases q : okT (rd_L2 c i) = true
    · rw [q, Bool.true_and]
      exact Ev.eq (fun k => by rw [if_pos rfl]) (ih (i + 1) (by omega) (by omega))
    · refine Ev.eq (h := fun _ => some 1) (fun k => by rw [if_neg q]) ⟨0, fun k _ => ?_⟩
      rw [if_neg (by simp [q])]
theorem SpecCodeC_ (s : List Int) (hs : s.length ≤ 1048576) (c : List (List Int)) (hn : c.length ≤ 1048576) (ht : tot c ≤ 1048576) : Ev (fun k => spec_l22Copies.f k s c) (codeC s c) := by
  refine Ev.eq (h := fun k => (spec_l22Ok.f k s).bind fun t => if t = true then spec_l22Copies.l0 k s c 0 else some 1) (fun k => rfl) (Ev.bind (t := okT s) ⟨1048577, fun k hk => SpecOkT_ s hs k (by omega)⟩ ?_)
  unfold codeC
  by_cases q : okT s = true
  · refine Ev.eq (fun k => by rw [if_pos q]) ?_
    have := specC_0 s c hn ht c.length 0 (by omega) (by omega)
    simp only [Int.toNat_zero, List.drop_zero] at this
    by_cases q2 : c.all okT = true
    · rw [if_pos q2] at this; rw [if_pos ⟨q, q2⟩]; exact this
    · rw [if_neg q2] at this; rw [if_neg (fun h => q2 h.2)]; exact this
  · refine Ev.eq (h := fun _ => some 1) (fun k => by rw [if_neg q]) ⟨0, fun k _ => ?_⟩
    rw [if_neg (fun h => q h.1)]
theorem codeC_0 {s : List Int} {c : List (List Int)} (h : codeC s c = 0) : okT s = true ∧ c.all okT = true ∧ (∀ x ∈ c, x.length = s.length) ∧ c.length ≤ 8 := by
  unfold codeC at h
  by_cases q : okT s = true ∧ c.all okT = true
  · rw [if_pos q] at h
    by_cases q2 : (c.all fun x => decide (x.length = s.length)) = true ∧ c.length ≤ 8
    · exact ⟨q.1, q.2, fun x hx => of_decide_eq_true (List.all_eq_true.1 q2.1 x hx), q2.2⟩
    · rw [if_neg q2] at h; omega
  · rw [if_neg q] at h; omega

abbrev IR := S64

def cpd (c : List (List Int)) (i : Int) : Bool := c.any fun x => decide (rd x i = 0)
/-- The repairs from part i on. -/
def repsF (s : List Int) (c : List (List Int)) : Nat → Int → List IR
  | 0, _ => []
  | d + 1, i => if rd s i = 1 then (⟨i, 1, if cpd c i = true then 2 else 3⟩ : IR) :: repsF s c d (i + 1) else repsF s c d (i + 1)
theorem repsF_len (s : List Int) (c : List (List Int)) : ∀ (d : Nat) (i : Int), (repsF s c d i).length ≤ d
  | 0, _ => Nat.le_refl _
  | d + 1, i => by
    have := repsF_len s c d (i + 1)
    unfold repsF; split <;> simp <;> omega
section
variable (s : List Int) (c : List (List Int)) (hs : s.length ≤ 40) (hc : c.length ≤ 8) (hl : ∀ x ∈ c, x.length = s.length)
include hs hc hl in
theorem specReps_1 (i : Int) (i0 : 0 ≤ i) (i1 : i < s.length) (a : List IR) (ha : a.length ≤ 100) (r : List IR × Int) : ∀ (d : Nat) (j x : Int), (c.length : Int) - j = d → 0 ≤ j → (x = 2 ∨ x = 3) → Ev (fun k => spec_RepairsFor.l0 k s c (a ++ [(⟨i, 1, if x = 2 ∨ cpd (c.drop j.toNat) i = true then 2 else 3⟩ : IR)]) (i + 1)) r → Ev (fun k => spec_RepairsFor.l1 k s c a i x j) r := by
  intro d
  induction d with
  | zero =>
    intro j x hd h0 hx hr
    refine Ev.step (fun k => ?_) hr
    simp only [spec_RepairsFor.l1]
    rw [if_neg (by omega), if_pos (by omega), w64 (by omega) (by omega), List.drop_eq_nil_of_le (by omega)]
    rcases hx with rfl | rfl <;> simp [cpd]
  | succ d ih =>
    intro j x hd h0 hx hr
    have hll := hl _ (rdL_mem c j h0 (by omega))
    rw [rdL_drop c j h0 (by omega)] at hr
    have e : ∀ k, spec_RepairsFor.l1 (k + 1) s c a i x j = spec_RepairsFor.l1 k s c a i (if rd (rd_L2 c j) i = 0 then 2 else x) (j + 1) := by
      intro k
      simp only [spec_RepairsFor.l1]
      rw [if_pos (by omega), if_pos h0, if_pos i0, if_pos (by omega), w64 (by omega) (by omega)]
      by_cases q : rd (rd_L2 c j) i = 0
      · rw [if_pos q, if_pos q]
      · rw [if_neg q, if_neg q]
    refine Ev.step e (ih (j + 1) _ (by omega) (by omega) (by split <;> simp [hx]) ?_)
    refine Ev.eq (fun k => ?_) hr
    by_cases q : rd (rd_L2 c j) i = 0
    · rw [if_pos q, if_pos (.inl rfl), if_pos (.inr (by simp [cpd, q]))]
    · rw [if_neg q]
      have : cpd (rd_L2 c j :: c.drop (j + 1).toNat) i = cpd (c.drop (j + 1).toNat) i := by simp only [cpd, List.any_cons, decide_eq_false q, Bool.false_or]
      rw [this]
include hs hc hl in
theorem specReps_0 : ∀ (d : Nat) (i : Int) (a : List IR), (s.length : Int) - i = d → 0 ≤ i → (a.length : Int) ≤ i → Ev (fun k => spec_RepairsFor.l0 k s c a i) (a ++ repsF s c d i, 0) := by
  intro d
  induction d with
  | zero =>
    intro i a hd h0 ha
    refine Ev.now (fun k => ?_)
    simp only [spec_RepairsFor.l0]
    rw [if_neg (by omega)]; simp [repsF]
  | succ d ih =>
    intro i a hd h0 ha
    by_cases q : rd s i = 1
    · refine Ev.step (h := fun k => spec_RepairsFor.l1 k s c a i 3 0) (fun k => ?_) (specReps_1 s c hs hc hl i h0 (by omega) a (by omega) _ c.length 0 3 (by omega) (by omega) (.inr rfl) ?_)
      · simp only [spec_RepairsFor.l0]
        rw [if_pos (by omega), if_pos h0, if_pos q]
      · have := ih (i + 1) (a ++ [(⟨i, 1, if cpd c i = true then 2 else 3⟩ : IR)]) (by omega) (by omega) (by simp; omega)
        simp only [repsF, if_pos q]
        simp only [Int.toNat_zero, List.drop_zero]
        rw [List.append_assoc] at this
        refine Ev.eq (fun k => ?_) this
        by_cases z : cpd c i = true
        · rw [if_pos (.inr z), if_pos z]
        · rw [if_neg (by simp [z]), if_neg z]
    · refine Ev.step (h := fun k => spec_RepairsFor.l0 k s c a (i + 1)) (fun k => ?_) ?_
      · simp only [spec_RepairsFor.l0]
        rw [if_pos (by omega), if_pos h0, if_neg q, w64 (by omega) (by omega)]
      · simp only [repsF, if_neg q]
        exact ih (i + 1) a (by omega) (by omega) (by omega)
include hs hl in
theorem implReps_0 : ∀ (d : Nat) (i : Int) (a : List IR), (s.length : Int) - i = d → 0 ≤ i → (a.length : Int) ≤ i → Ev (fun k => impl_RepairsFor.l0 k c a s (s.length : Int) i) (a ++ repsF s c d i, 0) := by
  intro d
  induction d with
  | zero =>
    intro i a hd h0 ha
    refine Ev.now (fun k => ?_)
    simp only [impl_RepairsFor.l0]
    rw [if_neg (by omega)]; simp [repsF]
  | succ d ih =>
    intro i a hd h0 ha
    by_cases q : rd s i = 1
    · have hcp : impl_isCopied.f c i = some (cpd c i) := by
        unfold impl_isCopied.f cpd
        rw [if_pos ⟨h0, List.all_eq_true.2 (fun x hx => decide_eq_true (by have := hl x hx; omega))⟩]
      have := ih (i + 1) (a ++ [(⟨i, 1, if cpd c i = true then 2 else 3⟩ : IR)]) (by omega) (by omega) (by simp; omega)
      refine Ev.step (h := fun k => impl_RepairsFor.l0 k c (a ++ [(⟨i, 1, if cpd c i = true then 2 else 3⟩ : IR)]) s (s.length : Int) (i + 1)) (fun k => ?_) ?_
      · simp only [impl_RepairsFor.l0]
        rw [if_pos (by omega), if_pos h0, if_pos (by omega), if_pos q, hcp]; simp only [Option.bind_some]
        by_cases z : cpd c i = true
        · rw [if_pos z, if_pos (by omega), w64 (by omega) (by omega), if_pos z]
        · rw [if_neg z, if_pos (by omega), w64 (by omega) (by omega), if_neg z]
      · simp only [repsF, if_pos q]
        rw [List.append_assoc] at this
        exact this
    · refine Ev.step (h := fun k => impl_RepairsFor.l0 k c a s (s.length : Int) (i + 1)) (fun k => ?_) ?_
      · simp only [impl_RepairsFor.l0]
        rw [if_pos (by omega), if_pos h0, if_pos (by omega), if_neg q, w64 (by omega) (by omega)]
      · simp only [repsF, if_neg q]
        exact ih (i + 1) a (by omega) (by omega) (by omega)
end
def repairsR (s : List Int) (c : List (List Int)) : List IR × Int := if codeC s c = 0 then (repsF s c s.length 0, 0) else ([], codeC s c)
theorem SpecRepairsFor_ (s : List Int) (hs : s.length ≤ 1048576) (c : List (List Int)) (hn : c.length ≤ 1048576) (ht : tot c ≤ 1048576) : Ev (fun k => spec_RepairsFor.f k s c) (repairsR s c) := by
  refine Ev.eq (h := fun k => (spec_l22Copies.f k s c).bind fun t => if t = 0 then spec_RepairsFor.l0 k s c [] 0 else some ([], t)) (fun k => rfl) (Ev.bind (SpecCodeC_ s hs c hn ht) ?_)
  unfold repairsR
  by_cases q : codeC s c = 0
  · obtain ⟨o1, o2, o3, o4⟩ := codeC_0 q
    rw [if_pos q]
    exact Ev.eq (fun k => by rw [if_pos q]) (specReps_0 s c (okT_says o1).1 o4 o3 s.length 0 [] (by omega) (by omega) (by simp))
  · rw [if_neg q]
    exact ⟨0, fun k _ => if_neg q⟩
theorem ImplRepairsFor_ (s : List Int) (c : List (List Int)) : Ev (fun k => impl_RepairsFor.f k s c) (repairsR s c) := by
  refine Ev.eq (h := fun k => if codeC s c = 0 then impl_RepairsFor.l0 k c [] s (s.length : Int) 0 else some ([], codeC s c)) (fun k => by unfold impl_RepairsFor.f; rw [ImplCodeC_]; rfl) ?_
  unfold repairsR
  by_cases q : codeC s c = 0
  · obtain ⟨o1, o2, o3, o4⟩ := codeC_0 q
    rw [if_pos q]
    exact Ev.eq (fun k => by rw [if_pos q]) (implReps_0 s c (okT_says o1).1 o3 s.length 0 [] (by omega) (by omega) (by simp))
  · rw [if_neg q]
    exact ⟨0, fun k _ => if_neg q⟩

theorem eqReps2_l (l : List IR) (hl : l.length ≤ 1048576) : ∀ (d k : Nat) (i : Int), (l.length : Int) - i = d → 0 ≤ i → d < k → laws_eqRepairS.l0 k l l i = some true := by
  intro d
  induction d with
  | zero =>
    intro k i hd h0 hk
    obtain ⟨k, rfl⟩ : ∃ m, k = m + 1 := ⟨k - 1, by omega⟩
    simp only [laws_eqRepairS.l0]; rw [if_neg (by omega)]
  | succ d ih =>
    intro k i hd h0 hk
    obtain ⟨k, rfl⟩ : ∃ m, k = m + 1 := ⟨k - 1, by omega⟩
    simp only [laws_eqRepairS.l0]
    rw [if_pos (by omega), if_pos h0, if_pos (by omega)]; simp only [laws_eqRepair.f, if_true, Option.bind_some]
    rw [w64 (by omega) (by omega)]
    exact ih k (i + 1) (by omega) (by omega) (by omega)

theorem mkHR_l (z : IR) (hz : z = z64) (x : Int) (hx : 0 ≤ x) (n : Nat) (hn : n ≤ 1048576) (hx1 : x + 3 * n ≤ 1000000000) : ∀ (d : Nat) (l : List IR) (i : Int), l.length = n → (n : Int) - i = d → 0 ≤ i → (∀ j : Int, 0 ≤ j → j < i → l.getD j.toNat z = (⟨x + 3 * j, x + 3 * j + 1, x + 3 * j + 2⟩ : IR)) → ∃ l', l'.length = n ∧ (∀ j : Int, 0 ≤ j → j < n → l'.getD j.toNat z = (⟨x + 3 * j, x + 3 * j + 1, x + 3 * j + 2⟩ : IR)) ∧ ∀ k, d < k → laws_markRepairS.l0 k l (x + 3 * i) i = some (x + 3 * n, l') := by
  intro d
  induction d with
  | zero =>
    intro l i hl hd h0 hr
    refine ⟨l, hl, fun j h1 h2 => hr j h1 (by omega), fun k hk => ?_⟩
    obtain ⟨k, rfl⟩ : ∃ j, k = j + 1 := ⟨k - 1, by omega⟩
    simp only [laws_markRepairS.l0]; rw [if_neg (by omega), show i = (n : Int) by omega]
  | succ d ih =>
    intro l i hl hd h0 hr
    have e1 : wrap64 (x + 3 * i + 1) = x + 3 * i + 1 := w64 (by omega) (by omega)
    have e2 : wrap64 (x + 3 * i + 1 + 1) = x + 3 * i + 2 := by rw [w64 (by omega) (by omega)]; omega
    have e3 : wrap64 (x + 3 * i + 2 + 1) = x + 3 * (i + 1) := by rw [w64 (by omega) (by omega)]; omega
    have e4 : wrap64 (i + 1) = i + 1 := w64 (by omega) (by omega)
    have hrd : ∀ a : List IR, rd_T64 a i = a.getD i.toNat z := fun a => by rw [hz]; rfl
    have st : ∀ k, laws_markRepairS.l0 (k + 1) l (x + 3 * i) i = laws_markRepairS.l0 k (l.set i.toNat (⟨x + 3 * i, x + 3 * i + 1, x + 3 * i + 2⟩ : IR)) (x + 3 * (i + 1)) (i + 1) := fun k => by
      simp only [laws_markRepairS.l0]
      rw [if_pos (by omega), if_pos h0]; simp only [Option.bind_some, e1, e2, e3, e4, hrd]
      rw [gd_same z _ i _ h0 (by first | omega | (simp; omega)), gd_same z _ i _ h0 (by first | omega | (simp; omega))]
      simp only [List.set_set]
    obtain ⟨l', q1, q2, q3⟩ := ih (l.set i.toNat (⟨x + 3 * i, x + 3 * i + 1, x + 3 * i + 2⟩ : IR)) (i + 1) (by simpa using hl) (by omega) (by omega) (fun j h1 h2 => by
      by_cases e : j = i
      · subst e; rw [gd_same _ _ _ _ h0 (by omega)]
      · rw [gd_other _ _ _ _ _ h0 h1 (by omega)]; exact hr j h1 (by omega))
    refine ⟨l', q1, q2, fun k hk => ?_⟩
    obtain ⟨k, rfl⟩ : ∃ j, k = j + 1 := ⟨k - 1, by omega⟩
    rw [st]; exact q3 k (by omega)
theorem heldR_l (z : IR) (hz : z = z64) (x : Int) (hx : 0 ≤ x) (n : Nat) (hn : n ≤ 1048576) (hx1 : x + 3 * n ≤ 1000000000) (l : List IR) (hl : l.length = n) (hr : ∀ j : Int, 0 ≤ j → j < n → l.getD j.toNat z = (⟨x + 3 * j, x + 3 * j + 1, x + 3 * j + 2⟩ : IR)) : ∀ (d k : Nat) (i : Int), (n : Int) - i = d → 0 ≤ i → d < k → laws_heldRepairS.l0 k l (x + 3 * i) i = some (x + 3 * n) := by
  intro d
  induction d with
  | zero =>
    intro k i hd h0 hk
    obtain ⟨k, rfl⟩ : ∃ j, k = j + 1 := ⟨k - 1, by omega⟩
    simp only [laws_heldRepairS.l0]; rw [if_neg (by omega), show i = (n : Int) by omega]
  | succ d ih =>
    intro k i hd h0 hk
    obtain ⟨k, rfl⟩ : ∃ j, k = j + 1 := ⟨k - 1, by omega⟩
    have e1 : wrap64 (x + 3 * i + 1) = x + 3 * i + 1 := w64 (by omega) (by omega)
    have e2 : wrap64 (x + 3 * i + 1 + 1) = x + 3 * i + 2 := by rw [w64 (by omega) (by omega)]; omega
    have e3 : wrap64 (x + 3 * i + 2 + 1) = x + 3 * (i + 1) := by rw [w64 (by omega) (by omega)]; omega
    have e4 : wrap64 (i + 1) = i + 1 := w64 (by omega) (by omega)
    have hrd : rd_T64 l i = (⟨x + 3 * i, x + 3 * i + 1, x + 3 * i + 2⟩ : IR) := by rw [← hr i h0 (by omega), hz]; rfl
    simp only [laws_heldRepairS.l0]
    rw [if_pos (by omega), if_pos h0]; simp only [hrd, e1, e2, e3, e4, if_true]
    exact ih k (i + 1) (by omega) (by omega) (by omega)
theorem mkHR_ (l : List IR) (hl : l.length ≤ 1048576) : ∃ l', (∀ k, 1048577 ≤ k → laws_markRepairS.f k l 1 = some (1 + 3 * (l.length : Int), l')) ∧ ∀ k, 1048577 ≤ k → laws_heldRepairS.f k l' 1 = some (1 + 3 * (l.length : Int)) := by
  obtain ⟨l', q1, q2, q3⟩ := mkHR_l _ rfl 1 (by omega) l.length hl (by omega) l.length l 0 rfl (by omega) (by omega) (fun j h1 h2 => by omega)
  exact ⟨l', fun k hk => q3 k (by omega), fun k hk => heldR_l _ rfl 1 (by omega) l.length hl (by omega) l' q1 q2 l.length k 0 (by omega) (by omega) (by omega)⟩

theorem FnExactRepairsFor : laws_FnExactRepairsFor.Pure := by
  intro s c _ _ _ hcm _ hcx
  obtain ⟨z, hz, K1, e1⟩ := szSS_ c hcm (fun x hx => (hcx x hx).1)
  dsimp only at e1
  by_cases hb : (s.length : Int) > 1048576
  · exact ⟨0, by unfold laws_FnExactRepairsFor.f; rw [if_pos hb]⟩
  by_cases hz0 : z < 0
  · refine ⟨K1, ?_⟩
    unfold laws_FnExactRepairsFor.f
    rw [if_neg hb, e1 _ (Nat.le_refl _)]; simp only [Option.bind_some]; rw [if_pos hz0]
  obtain ⟨hc, ht⟩ := hz (by omega)
  have hs : s.length ≤ 1048576 := by omega
  have hT := toInts_ s hs
  have hE := eqI_ s hs
  obtain ⟨K2, e2⟩ := toSS_ c hc ht
  obtain ⟨K3, e3⟩ := eqSS_ c hc ht
  obtain ⟨K4, e4⟩ := SpecRepairsFor_ s hs c hc ht
  obtain ⟨K5, e5⟩ := ImplRepairsFor_ s c
  obtain ⟨s', hM⟩ := mkI_ s hs 1 (by omega) (by omega)
  obtain ⟨K6, e6⟩ := mkSS_ c hc ht (1 + (s.length : Int)) (by omega) (by omega)
  dsimp only at e2 e3 e4 e5 e6
  have hrl : (repairsR s c).1.length ≤ 1048576 := by
    unfold repairsR
    by_cases q : codeC s c = 0
    · rw [if_pos q]; have := repsF_len s c s.length 0; show (repsF s c s.length 0).length ≤ _; omega
    · rw [if_neg q]; simp
  generalize repairsR s c = r at e4 e5 hrl
  obtain ⟨R, cd⟩ := r
  have hrl : R.length ≤ 1048576 := hrl
  have hER := eqReps2_l R hrl R.length
  obtain ⟨R', hMR, hH⟩ := mkHR_ R hrl
  have n1 : ¬ (1 + (s.length : Int) + (tot c : Int) < 0) := by omega
  have n2 : ¬ (1 + 3 * (R.length : Int) < 0) := by omega
  refine ⟨1048800 + (K1 + K2 + K3 + K4 + K5 + K6), ?_⟩
  generalize hk : 1048800 + (K1 + K2 + K3 + K4 + K5 + K6) = k
  unfold laws_FnExactRepairsFor.f
  rw [if_neg hb, e1 _ (by omega)]; simp only [Option.bind_some]
  rw [if_neg hz0, hT _ (by omega)]; simp only [Option.bind_some]
  rw [e2 _ (by omega)]; simp only [Option.bind_some]
  rw [e4 _ (by omega)]; simp only [Option.bind_some]
  rw [e5 _ (by omega)]; simp only [Option.bind_some, if_true]
  rw [show laws_eqRepairS.f k R R = some true from by unfold laws_eqRepairS.f; rw [if_pos rfl]; exact hER k 0 (by omega) (by omega) (by omega)]; simp only [Option.bind_some, if_true]
  rw [hE _ (by omega)]; simp only [Option.bind_some, if_true]
  rw [e3 _ (by omega)]; simp only [Option.bind_some, if_true]
  rw [hM _ (by omega)]; simp only [Option.bind_some]
  rw [e6 _ (by omega)]; simp only [Option.bind_some]
  rw [if_neg n1, hMR _ (by omega)]; simp only [Option.bind_some]
  rw [hH _ (by omega)]; simp only [Option.bind_some]
  rw [if_neg n2]; simp

end Go.Proofs.Ytfajacoagaamlaa.Pure
