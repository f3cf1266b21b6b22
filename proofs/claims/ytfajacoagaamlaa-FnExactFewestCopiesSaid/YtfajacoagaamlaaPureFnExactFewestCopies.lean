/- For all states and copies the program's FewestCopies answers as the reference's does, in memory of its own. No condition. -/
import Derived.Test.YtfajacoagaamlaaQFnExactFewestCopiesx5
import Derived.Test.YtfajacoagaamlaaBase
namespace Go.Proofs.Ytfajacoagaamlaa.Pure
open Go Go.RowKit Go.Proofs.Ytfajacoagaamlaa.QFnExactFewestCopies Go.Proofs.YtfajacoagaamlaaW.PrintWords Go.Proofs.YtfajacoagaamlaaW.PrintLast Go.Proofs.YtfajacoagaamlaaW.PrintMore Go.Proofs.Ytfajacoagaamlaa.Base
set_option linter.unusedVariables false
set_option linter.unusedSimpArgs false

/-- From some number of rounds on the answer is r. -/
def Ev {α : Type} (g : Nat → Option α) (r : α) : Prop := ∃ K, ∀ k, K ≤ k → g k = some r
theorem Ev.step {α : Type} {g h : Nat → Option α} {r : α} (e : ∀ k, g (k + 1) = h k) (hr : Ev h r) : Ev g r := by
  obtain ⟨K, hK⟩ := hr
  refine ⟨K + 1, fun k hk => ?_⟩
  obtain ⟨k, rfl⟩ : ∃ m, k = m + 1 := ⟨k - 1, by omega⟩
  rw [e]; exact hK k (by omega)
theorem Ev.now {α : Type} {g : Nat → Option α} {r : α} (e : ∀ k, g (k + 1) = some r) : Ev g r := Ev.step (h := fun _ => some r) e ⟨0, fun _ _ => rfl⟩
theorem Ev.bind {α β : Type} {c : Nat → Option α} {f : Nat → α → Option β} {t : α} {r : β} (hc : Ev c t) (hf : Ev (fun k => f k t) r) : Ev (fun k => (c k).bind (f k)) r := by
  obtain ⟨K, hK⟩ := hc
  obtain ⟨L, hL⟩ := hf
  exact ⟨K + L, fun k hk => by show (c k).bind (f k) = some r; rw [hK k (by omega)]; exact hL k (by omega)⟩
theorem Ev.eq {α : Type} {g h : Nat → Option α} {r : α} (e : ∀ k, g k = h k) (hr : Ev h r) : Ev g r := by
  obtain ⟨K, hK⟩ := hr
  exact ⟨K, fun k hk => by rw [e]; exact hK k hk⟩

theorem gd_ext {α : Type} (z : α) (a l : List α) (h : a.length = l.length) (h2 : ∀ j : Int, 0 ≤ j → j < l.length → a.getD j.toNat z = l.getD j.toNat z) : a = l := by
  apply List.ext_getElem h
  intro n h1 h3
  have := h2 n (by omega) (by omega)
  rw [List.getD_eq_getElem?_getD, List.getD_eq_getElem?_getD, Int.toNat_natCast, List.getElem?_eq_getElem h1, List.getElem?_eq_getElem h3] at this
  exact this
theorem gd_same {α : Type} (z : α) (l : List α) (i : Int) (v : α) (h0 : 0 ≤ i) (h : i < l.length) : (l.set i.toNat v).getD i.toNat z = v := by
  simp [List.getD_eq_getElem?_getD, List.getElem?_set, show i.toNat < l.length by omega]
theorem gd_other {α : Type} (z : α) (l : List α) (i j : Int) (v : α) (h0 : 0 ≤ i) (h1 : 0 ≤ j) (h : i ≠ j) : (l.set i.toNat v).getD j.toNat z = l.getD j.toNat z := by
  simp [List.getD_eq_getElem?_getD, List.getElem?_set, show ¬ i.toNat = j.toNat by omega]
theorem gd_in {α : Type} (z : α) (l : List α) (i : Int) (h0 : 0 ≤ i) (h : i < l.length) : l.getD i.toNat z ∈ l := by
  rw [List.getD_eq_getElem?_getD, List.getElem?_eq_getElem (by omega)]
  exact List.getElem_mem _
theorem gd_map {α β : Type} (z : α) (y : β) (f : α → β) (l : List α) (i : Int) (h0 : 0 ≤ i) (h : i < l.length) : (l.map f).getD i.toNat y = f (l.getD i.toNat z) := by
  rw [List.getD_eq_getElem?_getD, List.getD_eq_getElem?_getD, List.getElem?_map, List.getElem?_eq_getElem (by omega)]
  rfl
theorem size64 {n : Nat} (h : n ≤ maxLen) : (n : Int) ≤ 9223372036854775807 := by
  have e : maxLen = 9223372036854775807 := by decide
  omega

theorem toInts_l (l : List Int) (hl : l.length ≤ 1048576) : ∀ (d k : Nat) (i : Int) (a : List Int), (l.length : Int) - i = d → 0 ≤ i → a.length = l.length → (∀ j : Int, 0 ≤ j → j < i → rd a j = rd l j) → d < k → laws_toInt64S.l0 k l a i = some l := by
  intro d
  induction d with
  | zero =>
    intro k i a hd h0 ha hr hk
    obtain ⟨k, rfl⟩ : ∃ m, k = m + 1 := ⟨k - 1, by omega⟩
    simp only [laws_toInt64S.l0]; rw [if_neg (by omega)]
    congr 1
    exact rd_ext a l ha (fun j h1 h2 => hr j h1 (by omega))
  | succ d ih =>
    intro k i a hd h0 ha hr hk
    obtain ⟨k, rfl⟩ : ∃ m, k = m + 1 := ⟨k - 1, by omega⟩
    simp only [laws_toInt64S.l0]
    rw [if_pos (by omega), if_pos h0, if_pos (by omega), w64 (by omega) (by omega)]
    refine ih k (i + 1) _ (by omega) (by omega) (by simpa using ha) (fun j h1 h2 => ?_) (by omega)
    by_cases e : j = i
    · subst e; exact rd_same _ _ _ h0 (by omega)
    · rw [rd_other _ _ _ _ h0 h1 (by omega)]; exact hr j h1 (by omega)
theorem toInts_ (l : List Int) (hl : l.length ≤ 1048576) (k : Nat) (hk : 1048577 ≤ k) : laws_toInt64S.f k l = some l := by
  unfold laws_toInt64S.f
  rw [if_pos (by omega), if_pos (by simp; omega)]
  exact toInts_l l hl l.length k 0 _ (by omega) (by omega) (by simp) (fun j h1 h2 => by omega) (by omega)

theorem eqInts_l (l : List Int) (hl : l.length ≤ 1152921504606846976) : ∀ (d k : Nat) (i : Int), (l.length : Int) - i = d → 0 ≤ i → d < k → laws_eqInt64S.l0 k l l i = some true := by
  intro d
  induction d with
  | zero =>
    intro k i hd h0 hk
    obtain ⟨k, rfl⟩ : ∃ m, k = m + 1 := ⟨k - 1, by omega⟩
    simp only [laws_eqInt64S.l0]; rw [if_neg (by omega)]
  | succ d ih =>
    intro k i hd h0 hk
    obtain ⟨k, rfl⟩ : ∃ m, k = m + 1 := ⟨k - 1, by omega⟩
    simp only [laws_eqInt64S.l0]
    rw [if_pos (by omega), if_pos h0, if_pos (by omega), if_pos trivial, w64 (by omega) (by omega)]
    exact ih k (i + 1) (by omega) (by omega) (by omega)
theorem eqInts_ (l : List Int) (hl : l.length ≤ 1152921504606846976) (k : Nat) (hk : l.length < k) : laws_eqInt64S.f k l l = some true := by
  unfold laws_eqInt64S.f
  rw [if_pos rfl]; exact eqInts_l l hl l.length k 0 (by omega) (by omega) hk

theorem eqI_ (l : List Int) (hl : l.length ≤ 1048576) (k : Nat) (hk : 1048577 ≤ k) : laws_eqInt64S.f k l l = some true := eqInts_ l (by omega) k (by omega)

theorem rd_set_same (l : List Int) (i : Int) (v : Int) (h0 : 0 ≤ i) (h : i < l.length) : rd (l.set i.toNat v) i = v := by
  unfold rd; simp [List.getD_eq_getElem?_getD, List.getElem?_set, show i.toNat < l.length by omega]
theorem rd_set_other (l : List Int) (i j : Int) (v : Int) (h0 : 0 ≤ i) (h1 : 0 ≤ j) (h : i ≠ j) : rd (l.set i.toNat v) j = rd l j := by
  unfold rd; simp [List.getD_eq_getElem?_getD, List.getElem?_set, show ¬ i.toNat = j.toNat by omega]
theorem mark_l : ∀ (d k : Nat) (l : List Int) (i m : Int), (l.length : Int) - i = d → 0 ≤ i → l.length ≤ 1152921504606846976 → 0 ≤ m → m + d ≤ 4611686018427387904 → d < k → ∃ l', laws_markInt64S.l0 k l m i = some (m + d, l') ∧ l'.length = l.length ∧ (∀ j, i ≤ j → j < l.length → rd l' j = m + (j - i)) ∧ ∀ j, 0 ≤ j → j < i → rd l' j = rd l j := by
  intro d
  induction d with
  | zero =>
    intro k l i m hd h0 hl hm hm2 hk
    obtain ⟨k, rfl⟩ : ∃ m, k = m + 1 := ⟨k - 1, by omega⟩
    refine ⟨l, ?_, rfl, fun j h1 h2 => by omega, fun j _ _ => rfl⟩
    simp only [laws_markInt64S.l0]; rw [if_neg (by omega)]; simp
  | succ d ih =>
    intro k l i m hd h0 hl hm hm2 hk
    obtain ⟨k, rfl⟩ : ∃ m, k = m + 1 := ⟨k - 1, by omega⟩
    obtain ⟨l', h1, h2, h3, h4⟩ := ih k (l.set i.toNat m) (i + 1) (m + 1) (by simp; omega) (by omega) (by simpa using hl) (by omega) (by omega) (by omega)
    refine ⟨l', ?_, by simpa using h2, fun j g1 g2 => ?_, fun j g1 g2 => ?_⟩
    · simp only [laws_markInt64S.l0]
      rw [if_pos (by omega), if_pos h0, w64 (n := m + 1) (by omega) (by omega), w64 (n := i + 1) (by omega) (by omega), h1]
      congr 2; omega
    · by_cases e : j = i
      · subst e; rw [h4 j h0 (by omega), rd_set_same _ _ _ h0 (by omega)]; omega
      · rw [h3 j (by omega) (by simpa using g2)]; omega
    · rw [h4 j g1 (by omega), rd_set_other _ _ _ _ h0 g1 (by omega)]

theorem mkI_ (l : List Int) (hl : l.length ≤ 1048576) (m : Int) (h0 : 0 ≤ m) (h1 : m ≤ 1000000000) : ∃ l', ∀ k, 1048577 ≤ k → laws_markInt64S.f k l m = some (m + (l.length : Int), l') := by
  obtain ⟨l', h, _⟩ := mark_l l.length 1048577 l 0 m (by omega) (by omega) (by omega) (by omega) (by omega) (by omega)
  refine ⟨l', fun k hk => ?_⟩
  exact at_rounds (g := fun k => laws_markInt64S.f k l m) (fun k => laws_markInt64S.mono _ _ _) hk (by unfold laws_markInt64S.f; exact h)

def tot (l : List (List Int)) : Nat := (l.map List.length).sum
theorem tot_cons (x : List Int) (l : List (List Int)) : tot (x :: l) = x.length + tot l := by simp [tot]
theorem tot_mem : ∀ (l : List (List Int)) (x : List Int), x ∈ l → x.length ≤ tot l
  | y :: l, x, h => by
    rw [tot_cons]
    rcases List.mem_cons.1 h with rfl | h
    · omega
    · have := tot_mem l x h; omega
theorem gd_drop {α : Type} (z : α) (l : List α) (i : Int) (h0 : 0 ≤ i) (h : i < l.length) : l.drop i.toNat = l.getD i.toNat z :: l.drop (i + 1).toNat := by
  rw [List.drop_eq_getElem_cons (show i.toNat < l.length by omega), List.getD_eq_getElem?_getD, List.getElem?_eq_getElem (show i.toNat < l.length by omega), show (i + 1).toNat = i.toNat + 1 by omega]; rfl
theorem rdL_drop (l : List (List Int)) (i : Int) (h0 : 0 ≤ i) (h : i < l.length) : l.drop i.toNat = rd_L1 l i :: l.drop (i + 1).toNat := gd_drop [] l i h0 h
theorem rdL_mem (l : List (List Int)) (i : Int) (h0 : 0 ≤ i) (h : i < l.length) : rd_L1 l i ∈ l := by
  have := rdL_drop l i h0 h
  have hm : rd_L1 l i ∈ l.drop i.toNat := by rw [this]; exact List.mem_cons_self
  exact List.mem_of_mem_drop hm
theorem szSS_l (l : List (List Int)) (hn : l.length ≤ 1048576) (hb : ∀ x ∈ l, x.length ≤ maxLen) : ∀ (d : Nat) (i m : Int), (l.length : Int) - i = d → 0 ≤ i → 0 ≤ m → m ≤ 1048576 → ∃ r, r ≤ 1048576 ∧ (0 ≤ r → (tot (l.drop i.toNat) : Int) ≤ m) ∧ Ev (fun k => laws_szInt64SS.l0 k l m i) r := by
  intro d
  induction d with
  | zero =>
    intro i m hd h0 hm0 hm1
    refine ⟨m, hm1, fun _ => by rw [List.drop_eq_nil_of_le (by omega)]; simp [tot]; omega, Ev.now (fun k => ?_)⟩
    simp only [laws_szInt64SS.l0]
    rw [if_neg (by omega)]
  | succ d ih =>
    intro i m hd h0 hm0 hm1
    have hx := size64 (hb _ (rdL_mem l i h0 (by omega)))
    have e : ∀ k, laws_szInt64SS.l0 (k + 1) l m i = if m - ((rd_L1 l i).length : Int) < 0 then some (-1) else laws_szInt64SS.l0 k l (m - ((rd_L1 l i).length : Int)) (i + 1) := by
      intro k
      simp only [laws_szInt64SS.l0]
      rw [if_pos (by omega), if_pos h0]
      unfold laws_szInt64S.f
      rw [w64 (n := m - ((rd_L1 l i).length : Int)) (by omega) (by omega), w64 (n := i + 1) (by omega) (by omega)]
      by_cases c : m - ((rd_L1 l i).length : Int) < 0
      · rw [if_pos c, if_pos c]; rfl
      · rw [if_neg c, if_neg c]; simp only [Option.bind_some]; rw [if_neg c]
    by_cases c : m - ((rd_L1 l i).length : Int) < 0
    · exact ⟨-1, by omega, fun h => by omega, Ev.now (fun k => by rw [e, if_pos c])⟩
    · obtain ⟨r, r1, r2, r3⟩ := ih (i + 1) (m - ((rd_L1 l i).length : Int)) (by omega) (by omega) (by omega) (by omega)
      refine ⟨r, r1, fun h => ?_, Ev.step (fun k => by rw [e, if_neg c]) r3⟩
      have := r2 h
      rw [rdL_drop l i h0 (by omega), tot_cons]; omega
theorem szSS_ (l : List (List Int)) (hm : l.length ≤ maxLen) (hb : ∀ x ∈ l, x.length ≤ maxLen) : ∃ r, (0 ≤ r → l.length ≤ 1048576 ∧ tot l ≤ 1048576) ∧ Ev (fun k => laws_szInt64SS.f k l 1048576) r := by
  have := size64 hm
  by_cases c : (1048576 : Int) - (l.length : Int) < 0
  · refine ⟨-1, fun h => by omega, ⟨0, fun k _ => ?_⟩⟩
    unfold laws_szInt64SS.f
    rw [w64 (by omega) (by omega)]; exact if_pos c
  · obtain ⟨r, r1, r2, r3⟩ := szSS_l l (by omega) hb l.length 0 ((1048576 : Int) - (l.length : Int)) (by omega) (by omega) (by omega) (by omega)
    refine ⟨r, fun h => ?_, Ev.eq (fun k => ?_) r3⟩
    · have := r2 h
      simp at this
      omega
    · show laws_szInt64SS.f k l 1048576 = laws_szInt64SS.l0 k l ((1048576 : Int) - (l.length : Int)) 0
      unfold laws_szInt64SS.f
      rw [w64 (by omega) (by omega), if_neg c]
theorem toSS_l (l : List (List Int)) (hn : l.length ≤ 1048576) (ht : tot l ≤ 1048576) : ∀ (d : Nat) (i : Int) (a : List (List Int)), (l.length : Int) - i = d → 0 ≤ i → a.length = l.length → (∀ j : Int, 0 ≤ j → j < i → a.getD j.toNat [] = l.getD j.toNat []) → Ev (fun k => laws_toInt64SS.l0 k l a i) l := by
  intro d
  induction d with
  | zero =>
    intro i a hd h0 ha hr
    refine Ev.now (fun k => ?_)
    simp only [laws_toInt64SS.l0]; rw [if_neg (by omega)]
    congr 1
    exact gd_ext [] a l ha (fun j h1 h2 => hr j h1 (by omega))
  | succ d ih =>
    intro i a hd h0 ha hr
    have hx := tot_mem l _ (rdL_mem l i h0 (by omega))
    have e : ∀ k, laws_toInt64SS.l0 (k + 1) l a i = (laws_toInt64S.f k (rd_L1 l i)).bind fun t => laws_toInt64SS.l0 k l (a.set i.toNat t) (i + 1) := by
      intro k
      simp only [laws_toInt64SS.l0]
      rw [if_pos (by omega), if_pos h0]
      congr 1
      funext t
      rw [if_pos (by omega), w64 (by omega) (by omega)]
    refine Ev.step e (Ev.bind (t := rd_L1 l i) ⟨1048577, fun k hk => toInts_ _ (by omega) k hk⟩ (ih (i + 1) _ (by omega) (by omega) (by simpa using ha) (fun j h1 h2 => ?_)))
    by_cases e2 : j = i
    · subst e2; rw [gd_same _ _ _ _ h0 (by omega)]; rfl
    · rw [gd_other _ _ _ _ _ h0 h1 (by omega)]; exact hr j h1 (by omega)
theorem toSS_ (l : List (List Int)) (hn : l.length ≤ 1048576) (ht : tot l ≤ 1048576) : Ev (fun k => laws_toInt64SS.f k l) l := by
  refine Ev.eq (fun k => ?_) (toSS_l l hn ht l.length 0 (List.replicate ((l.length : Int) : Int).toNat []) (by omega) (by omega) (by simp) (fun j h1 h2 => by omega))
  unfold laws_toInt64SS.f
  rw [if_pos (by omega), if_pos (by simp; omega)]
theorem eqSS_l (l : List (List Int)) (hn : l.length ≤ 1048576) (ht : tot l ≤ 1048576) : ∀ (d : Nat) (i : Int), (l.length : Int) - i = d → 0 ≤ i → Ev (fun k => laws_eqInt64SS.l0 k l l i) true := by
  intro d
  induction d with
  | zero =>
    intro i hd h0
    refine Ev.now (fun k => ?_)
    simp only [laws_eqInt64SS.l0]; rw [if_neg (by omega)]
  | succ d ih =>
    intro i hd h0
    have hx := tot_mem l _ (rdL_mem l i h0 (by omega))
    have e : ∀ k, laws_eqInt64SS.l0 (k + 1) l l i = (laws_eqInt64S.f k (rd_L1 l i) (rd_L1 l i)).bind fun t => if t = true then laws_eqInt64SS.l0 k l l (i + 1) else some false := by
      intro k
      simp only [laws_eqInt64SS.l0]
      rw [if_pos (by omega), if_pos h0, if_pos (by omega), w64 (by omega) (by omega)]
    refine Ev.step e (Ev.bind (t := true) ⟨1048577, fun k hk => eqI_ _ (by omega) k hk⟩ ?_)
    exact Ev.eq (fun k => by rw [if_pos rfl]) (ih (i + 1) (by omega) (by omega))
theorem eqSS_ (l : List (List Int)) (hn : l.length ≤ 1048576) (ht : tot l ≤ 1048576) : Ev (fun k => laws_eqInt64SS.f k l l) true := by
  refine Ev.eq (fun k => ?_) (eqSS_l l hn ht l.length 0 (by omega) (by omega))
  unfold laws_eqInt64SS.f
  rw [if_pos rfl]
theorem mkSS_l : ∀ (l : List (List Int)) (x : Int), 0 ≤ x → x + tot l ≤ 100000000 → tot l ≤ 1048576 → Ev (fun k => mkss k l x) (x + tot l)
  | [], x, _, _, _ => ⟨0, fun k _ => by simp [mkss, tot]⟩
  | r :: rs, x, h0, h1, h2 => by
    rw [tot_cons] at h1 h2 ⊢
    obtain ⟨r', hM⟩ := mkI_ r (by omega) x h0 (by omega)
    have ih := mkSS_l rs (x + r.length) (by omega) (by omega) (by omega)
    refine Ev.eq (h := fun k => (laws_markInt64S.f k r x).bind fun t => mkss k rs t.1) (fun k => rfl) (Ev.bind (t := (x + (r.length : Int), r')) ⟨1048577, fun k hk => hM k (by omega)⟩ ?_)
    rw [show x + ((r.length + tot rs : Nat) : Int) = x + (r.length : Int) + (tot rs : Int) by omega]
    exact ih
theorem mkSS_ (l : List (List Int)) (hn : l.length ≤ 1048576) (ht : tot l ≤ 1048576) (x : Int) (h0 : 0 ≤ x) (h1 : x ≤ 10000000) : Ev (fun k => laws_markInt64SS.f k l x) (x + tot l) :=
  Ev.eq (fun k => by unfold laws_markInt64SS.f; rw [if_pos hn]) (mkSS_l l x h0 (by omega) ht)

theorem In_ (a b c : Int) : spec_l00In.f a b c = some (decide (b ≤ a ∧ a ≤ c)) := by
  unfold spec_l00In.f
  by_cases h : a ≥ b
  · rw [if_pos h]; simp [show b ≤ a from h]
  · rw [if_neg h]; simp [show ¬ b ≤ a from h]

def okT (l : List Int) : Bool := decide ((l.length : Int) ≤ 40) && l.all fun x => decide (0 ≤ x ∧ x ≤ 3)
theorem okT_says {l : List Int} (h : okT l = true) : l.length ≤ 40 ∧ (∀ x ∈ l, 0 ≤ x ∧ x ≤ 3) ∧ ∀ i : Int, 0 ≤ i → i < l.length → 0 ≤ rd l i ∧ rd l i ≤ 3 := by
  unfold okT at h
  simp only [Bool.and_eq_true, decide_eq_true_eq, List.all_eq_true] at h
  exact ⟨by omega, h.2, fun i h0 h1 => h.2 _ (rd_in l i h0 h1)⟩

theorem specOkT_l (l : List Int) (hl : l.length ≤ 1048576) : ∀ (d k : Nat) (i : Int), (l.length : Int) - i = d → 0 ≤ i → d < k → spec_l22Ok.l0 k l i = some ((l.drop i.toNat).all (fun x => decide (0 ≤ x ∧ x ≤ 3)) && decide ((l.length : Int) ≤ 40)) := by
  intro d
  induction d with
  | zero =>
    intro k i hd h0 hk
    obtain ⟨k, rfl⟩ : ∃ m, k = m + 1 := ⟨k - 1, by omega⟩
    simp only [spec_l22Ok.l0]; rw [if_neg (by omega), List.drop_eq_nil_of_le (by omega)]; simp
  | succ d ih =>
    intro k i hd h0 hk
    obtain ⟨k, rfl⟩ : ∃ m, k = m + 1 := ⟨k - 1, by omega⟩
    simp only [spec_l22Ok.l0]
    rw [if_pos (by omega), if_pos h0, In_, drop_rd l i h0 (by omega), w64 (by omega) (by omega), ih k (i + 1) (by omega) (by omega) (by omega)]
    simp only [Option.bind_some, List.all_cons]
    by_cases c : 0 ≤ rd l i ∧ rd l i ≤ 3
    · simp [c]
    · simp [c]
theorem SpecOkT_ (l : List Int) (hl : l.length ≤ 1048576) (k : Nat) (hk : l.length < k) : spec_l22Ok.f k l = some (okT l) := by
  unfold spec_l22Ok.f okT
  rw [specOkT_l l hl l.length k 0 (by omega) (by omega) hk]
  simp [Bool.and_comm]

theorem ImplOkT_ (l : List Int) : impl_ValidStates.f l = some (okT l) := by
  unfold impl_ValidStates.f impl_allWithin.f okT
  by_cases h2 : (l.length : Int) ≤ 40
  · rw [if_pos h2, decide_eq_true h2]; simp
  · rw [if_neg h2, decide_eq_false h2]; simp

def codeC (s : List Int) (c : List (List Int)) : Int := if okT s = true ∧ c.all okT = true then (if (c.all fun x => decide (x.length = s.length)) = true ∧ c.length ≤ 8 then 0 else 2) else 1
theorem ImplCodeC_ (s : List Int) (c : List (List Int)) : impl_copiesCode.f s c = some (codeC s c) := by
  have hv : vst = okT := by
    funext x
    have := ImplOkT_ x
    unfold vst; rw [this]; rfl
  unfold impl_copiesCode.f codeC impl_check.f
  rw [hv]
  have e : (c.all fun x => decide ((x.length : Int) = (s.length : Int))) = c.all fun x => decide (x.length = s.length) := by
    congr 1; funext x; exact decide_eq_decide.2 (by omega)
  rw [e]
  by_cases h1 : okT s = true <;> by_cases h2 : c.all okT = true <;> by_cases h3 : (c.all fun x => decide (x.length = s.length)) = true <;> by_cases h4 : c.length ≤ 8 <;> simp [h1, h2, h3, h4, show ((c.length : Int) ≤ 8) ↔ c.length ≤ 8 by omega]
theorem specC_1 (s : List Int) (c : List (List Int)) (hn : c.length ≤ 1048576) : ∀ (d : Nat) (i : Int), (c.length : Int) - i = d → 0 ≤ i → Ev (fun k => spec_l22Copies.l1 k s c i) (if ((c.drop i.toNat).all fun x => decide (x.length = s.length)) = true ∧ c.length ≤ 8 then 0 else 2) := by
  intro d
  induction d with
  | zero =>
    intro i hd h0
    refine Ev.now (fun k => ?_)
    simp only [spec_l22Copies.l1]
    rw [if_neg (by omega), List.drop_eq_nil_of_le (by omega)]
    by_cases h : c.length ≤ 8
    · rw [if_neg (by omega), if_pos ⟨by simp, h⟩]
    · rw [if_pos (by omega), if_neg (fun q => h q.2)]
  | succ d ih =>
    intro i hd h0
    rw [rdL_drop c i h0 (by omega), List.all_cons]
    have e : ∀ k, spec_l22Copies.l1 (k + 1) s c i = if (rd_L1 c i).length = s.length then spec_l22Copies.l1 k s c (i + 1) else some 2 := by
      intro k
      simp only [spec_l22Copies.l1]
      rw [if_pos (by omega), if_pos h0, w64 (by omega) (by omega)]
      by_cases q : (rd_L1 c i).length = s.length
      · rw [if_pos (by omega), if_pos q]
      · rw [if_neg (by omega), if_neg q]
    by_cases q : (rd_L1 c i).length = s.length
    · refine Ev.step (h := fun k => spec_l22Copies.l1 k s c (i + 1)) (fun k => by rw [e, if_pos q]) ?_
      rw [decide_eq_true q, Bool.true_and]
      exact ih (i + 1) (by omega) (by omega)
    · refine Ev.now (fun k => ?_)
      rw [e, if_neg q, decide_eq_false q, Bool.false_and, if_neg (by simp)]
theorem specC_0 (s : List Int) (c : List (List Int)) (hn : c.length ≤ 1048576) (ht : tot c ≤ 1048576) : ∀ (d : Nat) (i : Int), (c.length : Int) - i = d → 0 ≤ i → Ev (fun k => spec_l22Copies.l0 k s c i) (if ((c.drop i.toNat).all okT) = true then (if (c.all fun x => decide (x.length = s.length)) = true ∧ c.length ≤ 8 then 0 else 2) else 1) := by
  intro d
  induction d with
  | zero =>
    intro i hd h0
    rw [List.drop_eq_nil_of_le (by omega), if_pos (by simp)]
    refine Ev.step (h := fun k => spec_l22Copies.l1 k s c 0) (fun k => ?_) (specC_1 s c hn c.length 0 (by omega) (by omega))
    simp only [spec_l22Copies.l0]
    rw [if_neg (by omega)]
  | succ d ih =>
    intro i hd h0
    have hx := tot_mem c _ (rdL_mem c i h0 (by omega))
    rw [rdL_drop c i h0 (by omega), List.all_cons]
    have e : ∀ k, spec_l22Copies.l0 (k + 1) s c i = (spec_l22Ok.f k (rd_L1 c i)).bind fun t => if t = true then spec_l22Copies.l0 k s c (i + 1) else some 1 := by
      intro k
      simp only [spec_l22Copies.l0]
      rw [if_pos (by omega), if_pos h0, w64 (by omega) (by omega)]
    refine Ev.step e (Ev.bind (t := okT (rd_L1 c i)) ⟨1048577, fun k hk => SpecOkT_ _ (by omega) k (by omega)⟩ ?_)
    by_cases q : okT (rd_L1 c i) = true
    · rw [q, Bool.true_and]
      exact Ev.eq (fun k => by rw [if_pos rfl]) (ih (i + 1) (by omega) (by omega))
    · refine Ev.eq (h := fun _ => some 1) (fun k => by rw [if_neg q]) ⟨0, fun k _ => ?_⟩
      rw [if_neg (by simp [q])]
theorem SpecCodeC_ (s : List Int) (hs : s.length ≤ 1048576) (c : List (List Int)) (hn : c.length ≤ 1048576) (ht : tot c ≤ 1048576) : Ev (fun k => spec_l22Copies.f k s c) (codeC s c) := by
  refine Ev.eq (h := fun k => (spec_l22Ok.f k s).bind fun t => if t = true then spec_l22Copies.l0 k s c 0 else some 1) (fun k => rfl) (Ev.bind (t := okT s) ⟨1048577, fun k hk => SpecOkT_ s hs k (by omega)⟩ ?_)
  unfold codeC
  by_cases q : okT s = true
  · refine Ev.eq (fun k => by rw [if_pos q]) ?_
    have := specC_0 s c hn ht c.length 0 (by omega) (by omega)
    simp only [Int.toNat_zero, List.drop_zero] at this
    by_cases q2 : c.all okT = true
    · rw [if_pos q2] at this; rw [if_pos ⟨q, q2⟩]; exact this
    · rw [if_neg q2] at this; rw [if_neg (fun h => q2 h.2)]; exact this
  · refine Ev.eq (h := fun _ => some 1) (fun k => by rw [if_neg q]) ⟨0, fun k _ => ?_⟩
    rw [if_neg (fun h => q h.1)]
theorem codeC_0 {s : List Int} {c : List (List Int)} (h : codeC s c = 0) : okT s = true ∧ c.all okT = true ∧ (∀ x ∈ c, x.length = s.length) ∧ c.length ≤ 8 := by
  unfold codeC at h
  by_cases q : okT s = true ∧ c.all okT = true
  · rw [if_pos q] at h
    by_cases q2 : (c.all fun x => decide (x.length = s.length)) = true ∧ c.length ≤ 8
    · exact ⟨q.1, q.2, fun x hx => of_decide_eq_true (List.all_eq_true.1 q2.1 x hx), q2.2⟩
    · rw [if_neg q2] at h; omega
  · rw [if_neg q] at h; omega

theorem i64_and1 (n : Int) : Go.bits .and .i64 n 1 = n % 2 := by
  have h1 : (BitVec.ofInt 64 1).toNat = 2 ^ 1 - 1 := by decide
  have key : (BitVec.ofInt 64 n &&& BitVec.ofInt 64 1).toNat = (n % ((2 ^ 64 : Nat) : Int)).toNat % 2 ^ 1 := by
    rw [BitVec.toNat_and, BitVec.toNat_ofInt, h1, Nat.and_two_pow_sub_one_eq_mod]
  show IntKind.i64.wrap ((BitVec.ofInt 64 n &&& BitVec.ofInt 64 1).toNat : Nat) = n % 2
  rw [key, IntKind.wrap_i64]
  omega
theorem u64_small (j : Int) (h0 : 0 ≤ j) (h1 : j < 64) : IntKind.u64.wrap j = j := by
  simp [IntKind.wrap, IntKind.bits, IntKind.signed]; omega
theorem shr_ (x : Int) (j : Nat) (h : j < 64) : shr .i64 x (IntKind.u64.wrap (j : Int)) = x / 2 ^ j := by
  rw [u64_small _ (by omega) (by omega)]
  unfold shr
  rw [Int.toNat_natCast, show min j IntKind.i64.bits = j from Nat.min_eq_left (by show j ≤ 64; omega)]
theorem half_pow (x : Int) (j : Nat) : x / 2 ^ j / 2 = x / 2 ^ (j + 1) := by
  rw [Int.pow_succ, Int.ediv_ediv_of_nonneg (Int.le_of_lt (Int.pow_pos (by omega)))]
/-- The elements of a set of bits. -/
def mems : Nat → Int → Int → List Int
  | 0, _, _ => []
  | d + 1, x, k => if x % 2 = 1 then k :: mems d (x / 2) (k + 1) else mems d (x / 2) (k + 1)
theorem mems_zero : ∀ (d : Nat) (k : Int), mems d 0 k = []
  | 0, _ => rfl
  | d + 1, k => by unfold mems; rw [if_neg (by omega), show (0 : Int) / 2 = 0 by omega]; exact mems_zero d (k + 1)
theorem mems_len : ∀ (d : Nat) (x k : Int), (mems d x k).length ≤ d
  | 0, _, _ => Nat.le_refl _
  | d + 1, x, k => by
    have := mems_len d (x / 2) (k + 1)
    unfold mems; split <;> simp <;> omega
theorem mems_in : ∀ (d : Nat) (x k y : Int), y ∈ mems d x k → k ≤ y ∧ y < k + d
  | 0, _, _, y, h => by simp [mems] at h
  | d + 1, x, k, y, h => by
    unfold mems at h
    split at h
    · rcases List.mem_cons.1 h with rfl | h
      · omega
      · have := mems_in d _ _ _ h; omega
    · have := mems_in d _ _ _ h; omega
theorem implMembers_ : ∀ (d : Nat) (x k : Int) (a : List Int), 0 ≤ x → x < 2 ^ d → a.length + d ≤ 100 → 0 ≤ k → k + d ≤ 100 → Ev (fun K => impl_members.l0 K x a k) (a ++ mems d x k) := by
  intro d
  induction d with
  | zero =>
    intro x k a h0 h1 ha hk0 hk1
    have : x = 0 := by simp at h1; omega
    subst this
    refine Ev.now (fun K => ?_)
    simp only [impl_members.l0]
    rw [if_neg (by omega)]; simp [mems]
  | succ d ih =>
    intro x k a h0 h1 ha hk0 hk1
    rw [Int.pow_succ] at h1
    by_cases c : x > 0
    · have e : ∀ K, impl_members.l0 (K + 1) x a k = if x % 2 = 1 then impl_members.l0 K (x / 2) (a ++ [k]) (k + 1) else impl_members.l0 K (x / 2) a (k + 1) := by
        intro K
        simp only [impl_members.l0]
        rw [if_pos c, i64_and1, w64 (n := k + 1) (by omega) (by omega)]
        by_cases q : x % 2 = 1
        · rw [if_pos q, if_pos q, if_pos (by omega)]
        · rw [if_neg q, if_neg q]
      by_cases q : x % 2 = 1
      · refine Ev.step (fun K => by rw [e, if_pos q]) ?_
        have := ih (x / 2) (k + 1) (a ++ [k]) (by omega) (by omega) (by simp; omega) (by omega) (by omega)
        rw [List.append_assoc] at this
        unfold mems; rw [if_pos q]; exact this
      · refine Ev.step (fun K => by rw [e, if_neg q]) ?_
        unfold mems; rw [if_neg q]
        exact ih (x / 2) (k + 1) a (by omega) (by omega) (by omega) (by omega) (by omega)
    · have : x = 0 := by omega
      subst this
      refine Ev.now (fun K => ?_)
      simp only [impl_members.l0]
      rw [if_neg (by omega), mems_zero]; simp
theorem ImplMembers_ (n : Nat) (hn : n ≤ 8) (x : Int) (h0 : 0 ≤ x) (h1 : x < 2 ^ n) : Ev (fun K => impl_members.f K x) (mems n x 0) := by
  have := implMembers_ n x 0 [] h0 h1 (by simp; omega) (by omega) (by omega)
  simp only [List.nil_append] at this
  exact this
section
variable (s : List Int) (c : List (List Int)) (hs : s.length ≤ 40) (hc : c.length ≤ 8) (hl : ∀ x ∈ c, x.length = s.length)
include hs hc hl in
theorem covers_1 (x i : Int) (i0 : 0 ≤ i) (i1 : i < s.length) (r : Bool) : ∀ (d j : Nat) (b : Bool), c.length - j = d → j ≤ c.length → ((b || (mems d (x / 2 ^ j) (j : Int)).any fun k => decide (rd (rd_L1 c k) i = 0)) = true → Ev (fun k => spec_l22Covers.l0 k s c x (i + 1)) r) → ((b || (mems d (x / 2 ^ j) (j : Int)).any fun k => decide (rd (rd_L1 c k) i = 0)) = false → r = false) → Ev (fun k => spec_l22Covers.l1 k s c x i b (j : Int)) r := by
  intro d
  induction d with
  | zero =>
    intro j b hd hj h1 h2
    simp only [mems, List.any_nil, Bool.or_false] at h1 h2
    cases b with
    | true =>
      refine Ev.step (fun k => ?_) (h1 rfl)
      simp only [spec_l22Covers.l1]
      rw [if_neg (by omega), w64 (n := i + 1) (by omega) (by omega)]; rfl
    | false =>
      have := h2 rfl
      subst this
      refine Ev.now (fun k => ?_)
      simp only [spec_l22Covers.l1]
      rw [if_neg (by omega)]; rfl
  | succ d ih =>
    intro j b hd hj h1 h2
    have hll := hl _ (rdL_mem c (j : Int) (by omega) (by omega))
    have e : ∀ k, spec_l22Covers.l1 (k + 1) s c x i b (j : Int) = if x / 2 ^ j % 2 = 1 then (if rd (rd_L1 c (j : Int)) i = 0 then spec_l22Covers.l1 k s c x i true ((j + 1 : Nat) : Int) else spec_l22Covers.l1 k s c x i b ((j + 1 : Nat) : Int)) else spec_l22Covers.l1 k s c x i b ((j + 1 : Nat) : Int) := by
      intro k
      simp only [spec_l22Covers.l1]
      rw [if_pos (by omega), shr_ x j (by omega), i64_and1, u64_small _ (by omega) (by omega), if_pos (by omega), w64 (n := (j : Int) + 1) (by omega) (by omega)]
      by_cases q : x / 2 ^ j % 2 = 1
      · rw [if_pos q, if_pos q, if_pos (by omega), if_pos i0, if_pos (by omega)]; rfl
      · rw [if_neg q, if_neg q]; rfl
    unfold mems at h1 h2
    rw [half_pow] at h1 h2
    by_cases q : x / 2 ^ j % 2 = 1
    · rw [if_pos q, List.any_cons] at h1 h2
      by_cases z : rd (rd_L1 c (j : Int)) i = 0
      · rw [decide_eq_true z] at h1 h2
        refine Ev.step (fun k => by rw [e, if_pos q, if_pos z]) (ih (j + 1) true (by omega) (by omega) (fun h => h1 (by simp)) (fun h => by simp at h))
      · rw [decide_eq_false z, Bool.false_or] at h1 h2
        exact Ev.step (fun k => by rw [e, if_pos q, if_neg z]) (ih (j + 1) b (by omega) (by omega) h1 h2)
    · rw [if_neg q] at h1 h2
      exact Ev.step (fun k => by rw [e, if_neg q]) (ih (j + 1) b (by omega) (by omega) h1 h2)
include hs hc hl in
theorem covers_0 (x : Int) : ∀ (d : Nat) (i : Nat), s.length - i = d → i ≤ s.length → ∀ r : Bool, (r = true ↔ ∀ j : Nat, i ≤ j → j < s.length → lacks s c (mems c.length x 0) j = false) → Ev (fun k => spec_l22Covers.l0 k s c x (i : Int)) r := by
  intro d
  induction d with
  | zero =>
    intro i hd hi r hr
    have : r = true := hr.2 (fun j h1 h2 => by omega)
    subst this
    refine Ev.now (fun k => ?_)
    simp only [spec_l22Covers.l0]
    rw [if_neg (by omega)]
  | succ d ih =>
    intro i hd hi r hr
    refine Ev.step (h := fun k => spec_l22Covers.l1 k s c x (i : Int) (rd s (i : Int) != 1) ((0 : Nat) : Int)) (fun k => ?_) (covers_1 s c hs hc hl x (i : Int) (by omega) (by omega) r c.length 0 _ rfl (by omega) (fun h => ?_) (fun h => ?_))
    · simp only [spec_l22Covers.l0]
      rw [if_pos (by omega), if_pos (by omega)]; rfl
    · have hla : lacks s c (mems c.length x 0) i = false := by
        unfold lacks
        simp only [Int.pow_zero, Int.ediv_one] at h
        rw [Bool.or_eq_true] at h
        rcases h with h | h
        · rw [decide_eq_false (by simpa using h), Bool.false_and]
        · rw [show (mems c.length x 0).any (fun k => decide (rd (rd_L1 c k) (i : Int) = 0)) = true from h]; simp
      refine ih (i + 1) (by omega) (by omega) r (hr.trans ⟨fun g j g1 g2 => g j (by omega) g2, fun g j g1 g2 => ?_⟩)
      by_cases e : j = i
      · subst e; exact hla
      · exact g j (by omega) g2
    · cases r with
      | false => rfl
      | true =>
        have h3 := hr.1 rfl i (Nat.le_refl _) (by omega)
        unfold lacks at h3
        simp only [Int.pow_zero, Int.ediv_one] at h
        rw [Bool.or_eq_false_iff] at h
        rw [show (mems c.length x 0).any (fun k => decide (rd (rd_L1 c k) (i : Int) = 0)) = false from h.2] at h3
        rw [decide_eq_true (by simpa using h.1)] at h3
        simp at h3
def enoB (s : List Int) (c : List (List Int)) (ch : List Int) : Bool := (List.range s.length).all fun i => !lacks s c ch i
theorem enoB_iff (s : List Int) (c : List (List Int)) (ch : List Int) : enoB s c ch = true ↔ ∀ j : Nat, 0 ≤ j → j < s.length → lacks s c ch j = false := by
  unfold enoB
  rw [List.all_eq_true]
  constructor
  · intro h j _ h2
    have := h j (List.mem_range.2 h2)
    simpa using this
  · intro h j hj
    rw [h j (by omega) (List.mem_range.1 hj)]; rfl
include hs hc hl in
theorem SpecCovers_ (x : Int) : Ev (fun k => spec_l22Covers.f k s c x) (enoB s c (mems c.length x 0)) :=
  covers_0 s c hs hc hl x s.length 0 rfl (by omega) _ (enoB_iff s c _)
include hl in
theorem ImplEnough_ (x : Int) : impl_isEnough.f s c (mems c.length x 0) = some (enoB s c (mems c.length x 0)) := by
  unfold impl_isEnough.f
  rw [if_pos ⟨fun y hy => by have := mems_in _ _ _ _ hy; omega, fun y hy => by have := hl y hy; omega⟩]; rfl
end
/-- Is the one ahead of the other, from place i on? -/
def lexB (a b : List Int) : Nat → Int → Bool
  | 0, _ => false
  | d + 1, i => if rd a i = rd b i then lexB a b d (i + 1) else decide (rd a i < rd b i)
def lessB (a b : List Int) : Bool := if a.length = b.length then lexB a b a.length 0 else decide (a.length < b.length)
theorem specLess_l (a b : List Int) (hab : a.length = b.length) (ha : a.length ≤ 100) : ∀ (d : Nat) (i : Int), (a.length : Int) - i = d → 0 ≤ i → Ev (fun k => spec_l22Less.l0 k a b i) (lexB a b d i) := by
  intro d
  induction d with
  | zero =>
    intro i hd h0
    refine Ev.now (fun k => ?_)
    simp only [spec_l22Less.l0]
    rw [if_neg (by omega)]; rfl
  | succ d ih =>
    intro i hd h0
    have e : ∀ k, spec_l22Less.l0 (k + 1) a b i = if rd a i = rd b i then spec_l22Less.l0 k a b (i + 1) else some (decide (rd a i < rd b i)) := by
      intro k
      simp only [spec_l22Less.l0]
      rw [if_pos (by omega), if_pos h0, if_pos (by omega), w64 (by omega) (by omega)]
    unfold lexB
    by_cases q : rd a i = rd b i
    · rw [if_pos q]
      exact Ev.step (fun k => by rw [e, if_pos q]) (ih (i + 1) (by omega) (by omega))
    · rw [if_neg q]
      exact Ev.now (fun k => by rw [e, if_neg q])
theorem SpecLess_ (a b : List Int) (ha : a.length ≤ 100) (hb : b.length ≤ 100) : Ev (fun k => spec_l22Less.f k a b) (lessB a b) := by
  unfold lessB
  by_cases q : a.length = b.length
  · rw [if_pos q]
    refine Ev.eq (fun k => ?_) (specLess_l a b q ha a.length 0 (by omega) (by omega))
    unfold spec_l22Less.f
    rw [if_pos (by omega)]
  · rw [if_neg q]
    refine ⟨0, fun k _ => ?_⟩
    show spec_l22Less.f k a b = _
    unfold spec_l22Less.f
    rw [if_neg (by omega)]
    congr 1
    exact decide_eq_decide.2 (by omega)
theorem cmp_ (x y : Int) : cmp_Compare_int64.f x y = some (if x < y then -1 else if x > y then 1 else 0) := by
  simp only [cmp_Compare_int64.f, cmp_isNaN_int64.f, Option.bind_some, bne_self_eq_false, Bool.false_eq_true, if_false]
  by_cases h : x < y
  · rw [if_pos h, if_pos h]
  · rw [if_neg h, if_neg h]
    by_cases g : x > y
    · rw [if_pos g, if_pos g]
    · rw [if_neg g, if_neg g]
theorem compare_l (a b : List Int) (hab : a.length = b.length) (ha : a.length ≤ 100) : ∀ (d : Nat) (i : Int), (a.length : Int) - i = d → 0 ≤ i → ∃ t : Int, (t < 0 ↔ lexB a b d i = true) ∧ Ev (fun k => slices_Compare_int64_int64.l0 k a b a (a.length : Int) i) t := by
  intro d
  induction d with
  | zero =>
    intro i hd h0
    refine ⟨0, by simp [lexB], Ev.now (fun k => ?_)⟩
    simp only [slices_Compare_int64_int64.l0]
    rw [if_neg (by omega), if_neg (by omega)]
  | succ d ih =>
    intro i hd h0
    have e : ∀ k, slices_Compare_int64_int64.l0 (k + 1) a b a (a.length : Int) i = if (if rd a i < rd b i then (-1 : Int) else if rd a i > rd b i then 1 else 0) = 0 then slices_Compare_int64_int64.l0 k a b a (a.length : Int) (i + 1) else some (if rd a i < rd b i then -1 else if rd a i > rd b i then 1 else 0) := by
      intro k
      simp only [slices_Compare_int64_int64.l0]
      rw [if_pos (by omega), if_pos h0, if_pos (by omega), if_neg (by omega), if_pos (by omega), cmp_, w64 (by omega) (by omega)]
      simp only [Option.bind_some]
    unfold lexB
    by_cases q : rd a i = rd b i
    · rw [if_pos q]
      obtain ⟨t, h1, h2⟩ := ih (i + 1) (by omega) (by omega)
      refine ⟨t, h1, Ev.step (fun k => ?_) h2⟩
      rw [e, if_neg (show ¬ rd a i < rd b i by omega), if_neg (show ¬ rd a i > rd b i by omega), if_pos rfl]
    · rw [if_neg q]
      by_cases z : rd a i < rd b i
      · refine ⟨-1, by simp [z], Ev.now (fun k => ?_)⟩
        rw [e, if_pos z, if_neg (by omega)]
      · refine ⟨1, by simp [z], Ev.now (fun k => ?_)⟩
        rw [e, if_neg z, if_pos (show rd a i > rd b i by omega), if_neg (by omega)]
def betterB (ch : List Int) : Option (List Int) → Bool
  | none => true
  | some y => lessB ch y
theorem Ahead_ (ch : List Int) (hch : ch.length ≤ 100) : ∀ b : Option (List Int), Ev (fun k => aheadOf k ch b) (betterB ch b)
  | none => ⟨0, fun k _ => rfl⟩
  | some y => by
    show Ev _ (lessB ch y)
    unfold lessB
    by_cases h1 : (ch.length : Int) < (y.length : Int)
    · refine ⟨0, fun k _ => ?_⟩
      show aheadOf k ch (some y) = _
      simp only [aheadOf]
      rw [if_pos h1, if_neg (by omega), decide_eq_true (by omega)]
    · by_cases h2 : ch.length = y.length
      · obtain ⟨t, ht, K, hK⟩ := compare_l ch y h2 hch ch.length 0 (by omega) (by omega)
        refine ⟨K, fun k hk => ?_⟩
        show aheadOf k ch (some y) = _
        simp only [aheadOf]
        rw [if_neg h1, if_pos (by omega), show slices_Compare_int64_int64.f k ch y = some t from hK k hk, if_pos h2]
        show some (decide (t < 0)) = _
        congr 1
        by_cases g : lexB ch y ch.length 0 = true
        · rw [g]; exact decide_eq_true (ht.2 g)
        · rw [Bool.not_eq_true _ |>.mp g]; exact decide_eq_false (fun q => g (ht.1 q))
      · refine ⟨0, fun k _ => ?_⟩
        show aheadOf k ch (some y) = _
        simp only [aheadOf]
        rw [if_neg h1, if_neg (by omega), if_neg h2, decide_eq_false (by omega)]
/-- The best of the sets from x on, with what was best before. -/
def bst (s : List Int) (c : List (List Int)) : Nat → Int → Option (List Int) → Option (List Int)
  | 0, _, b => b
  | d + 1, x, b => if enoB s c (mems c.length x 0) = true then bst s c d (x + 1) (if betterB (mems c.length x 0) b = true then some (mems c.length x 0) else b) else bst s c d (x + 1) b
theorem bst_len (s : List Int) (c : List (List Int)) : ∀ (d : Nat) (x : Int) (b : Option (List Int)), (∀ y, b = some y → y.length ≤ c.length) → ∀ y, bst s c d x b = some y → y.length ≤ c.length
  | 0, _, b, hb, y, h => hb y h
  | d + 1, x, b, hb, y, h => by
    unfold bst at h
    have hm := mems_len c.length x 0
    split at h
    · refine bst_len s c d (x + 1) _ (fun z hz => ?_) y h
      split at hz
      · obtain rfl := Option.some.inj hz; exact hm
      · exact hb z hz
    · exact bst_len s c d (x + 1) b hb y h
section
variable (s : List Int) (c : List (List Int)) (hs : s.length ≤ 40) (hc : c.length ≤ 8) (hl : ∀ x ∈ c, x.length = s.length)
include hc hl in
theorem implBest_ : ∀ (d : Nat) (x : Int) (b : Option (List Int)), 0 ≤ x → x + d = 2 ^ c.length → Ev (fun k => fcl k s c d x b) (bst s c d x b) := by
  intro d
  induction d with
  | zero => intro x b h0 h1; exact ⟨0, fun k _ => rfl⟩
  | succ d ih =>
    intro x b h0 h1
    have hm := mems_len c.length x 0
    refine Ev.eq (h := fun k => (impl_members.f k x).bind fun ch => (impl_isEnough.f s c ch).bind fun e => if e = true then (aheadOf k ch b).bind fun q => fcl k s c d (x + 1) (if q = true then some ch else b) else fcl k s c d (x + 1) b) (fun k => rfl) (Ev.bind (ImplMembers_ c.length hc x h0 (by omega)) ?_)
    unfold bst
    by_cases q : enoB s c (mems c.length x 0) = true
    · rw [if_pos q]
      refine Ev.eq (h := fun k => (aheadOf k (mems c.length x 0) b).bind fun q => fcl k s c d (x + 1) (if q = true then some (mems c.length x 0) else b)) (fun k => ?_) (Ev.bind (Ahead_ _ (by omega) b) (ih (x + 1) _ (by omega) (by omega)))
      rw [ImplEnough_ s c hl x, q]; rfl
    · rw [if_neg q]
      refine Ev.eq (h := fun k => fcl k s c d (x + 1) b) (fun k => ?_) (ih (x + 1) b (by omega) (by omega))
      rw [ImplEnough_ s c hl x]
      show (if enoB s c (mems c.length x 0) = true then _ else _) = _
      rw [if_neg q]
def resF : Option (List Int) → List Int × Int
  | none => ([], 3)
  | some y => (y, 0)
include hc in
theorem specBest_1 (x : Int) (best : List Int) (f : Bool) (r : List Int × Int) : ∀ (d j : Nat) (a : List Int), c.length - j = d → j ≤ c.length → a.length ≤ j → (Ev (fun k => if f = true then ((spec_l22Less.f k (a ++ mems d (x / 2 ^ j) (j : Int)) best).bind fun t147 => (if t147 = true then (spec_FewestCopies.l0 k s c (a ++ mems d (x / 2 ^ j) (j : Int)) true (wrap64 (x + 1))) else (spec_FewestCopies.l0 k s c best f (wrap64 (x + 1))))) else (spec_FewestCopies.l0 k s c (a ++ mems d (x / 2 ^ j) (j : Int)) true (wrap64 (x + 1)))) r) → Ev (fun k => spec_FewestCopies.l1 k s c best f x a (j : Int)) r := by
  intro d
  induction d with
  | zero =>
    intro j a hd hj ha hr
    simp only [mems, List.append_nil] at hr
    refine Ev.step (fun k => ?_) hr
    simp only [spec_FewestCopies.l1]
    rw [if_neg (by omega)]
  | succ d ih =>
    intro j a hd hj ha hr
    have e : ∀ k, spec_FewestCopies.l1 (k + 1) s c best f x a (j : Int) = if x / 2 ^ j % 2 = 1 then spec_FewestCopies.l1 k s c best f x (a ++ [(j : Int)]) ((j + 1 : Nat) : Int) else spec_FewestCopies.l1 k s c best f x a ((j + 1 : Nat) : Int) := by
      intro k
      simp only [spec_FewestCopies.l1]
      rw [if_pos (by omega), shr_ x j (by omega), i64_and1, u64_small _ (by omega) (by omega), if_pos (by omega), w64 (n := (j : Int) + 1) (by omega) (by omega)]
      by_cases q : x / 2 ^ j % 2 = 1
      · rw [if_pos q, if_pos q, if_pos (by omega)]; rfl
      · rw [if_neg q, if_neg q]; rfl
    unfold mems at hr
    rw [half_pow] at hr
    by_cases q : x / 2 ^ j % 2 = 1
    · rw [if_pos q] at hr
      refine Ev.step (fun k => by rw [e, if_pos q]) (ih (j + 1) (a ++ [(j : Int)]) (by omega) (by omega) (by simp; omega) ?_)
      rw [List.append_assoc]
      exact hr
    · rw [if_neg q] at hr
      exact Ev.step (fun k => by rw [e, if_neg q]) (ih (j + 1) a (by omega) (by omega) (by omega) hr)
include hc in
theorem shl_ : shl .i64 1 (IntKind.u64.wrap (c.length : Int)) = 2 ^ c.length := by
  rw [u64_small _ (by omega) (by omega)]
  unfold shl
  rw [Int.toNat_natCast, show min c.length IntKind.i64.bits = c.length from Nat.min_eq_left (by show c.length ≤ 64; omega), Int.one_mul]
  have h : (2 : Nat) ^ c.length ≤ 2 ^ 8 := Nat.pow_le_pow_right (by omega) hc
  have e : ((2 : Int) ^ c.length) = ((2 ^ c.length : Nat) : Int) := by simp
  rw [e, IntKind.wrap_i64]
  generalize (2 : Nat) ^ c.length = p at h ⊢
  omega
include hs hc hl in
theorem specBest_0 : ∀ (d : Nat) (x : Int) (b : Option (List Int)), 0 ≤ x → x + d = 2 ^ c.length → (∀ y, b = some y → y.length ≤ c.length) → Ev (fun k => spec_FewestCopies.l0 k s c (b.getD []) b.isSome x) (resF (bst s c d x b)) := by
  have hp : (2 : Int) ^ c.length ≤ 256 := by
    have h : (2 : Nat) ^ c.length ≤ 2 ^ 8 := Nat.pow_le_pow_right (by omega) hc
    have e : ((2 : Int) ^ c.length) = ((2 ^ c.length : Nat) : Int) := by simp
    rw [e]; omega
  intro d
  induction d with
  | zero =>
    intro x b h0 h1 hb
    refine Ev.now (fun k => ?_)
    simp only [spec_FewestCopies.l0]
    rw [shl_ c hc, u64_small _ (by omega) (by omega), if_pos (by omega), if_neg (by omega)]
    cases b <;> rfl
  | succ d ih =>
    intro x b h0 h1 hb
    have hm := mems_len c.length x 0
    have hx : wrap64 (x + 1) = x + 1 := w64 (by omega) (by omega)
    have e : ∀ k, spec_FewestCopies.l0 (k + 1) s c (b.getD []) b.isSome x = (spec_l22Covers.f k s c x).bind fun t => if t = true then spec_FewestCopies.l1 k s c (b.getD []) b.isSome x [] 0 else spec_FewestCopies.l0 k s c (b.getD []) b.isSome (x + 1) := by
      intro k
      simp only [spec_FewestCopies.l0]
      rw [shl_ c hc, u64_small _ (by omega) (by omega), if_pos (by omega), if_pos (by omega), hx]
    refine Ev.step e (Ev.bind (SpecCovers_ s c hs hc hl x) ?_)
    unfold bst
    by_cases q : enoB s c (mems c.length x 0) = true
    · rw [if_pos q]
      refine Ev.eq (h := fun k => spec_FewestCopies.l1 k s c (b.getD []) b.isSome x [] ((0 : Nat) : Int)) (fun k => if_pos q) (specBest_1 s c hc x _ _ _ c.length 0 [] rfl (by omega) (by simp) ?_)
      simp only [Int.pow_zero, Int.ediv_one, List.nil_append, hx]
      cases b with
      | none => exact ih (x + 1) (some (mems c.length x 0)) (by omega) (by omega) (fun y hy => by obtain rfl := Option.some.inj hy; exact hm)
      | some y =>
        have hy := hb y rfl
        refine Ev.eq (h := fun k => (spec_l22Less.f k (mems c.length x 0) y).bind fun t => if t = true then spec_FewestCopies.l0 k s c (mems c.length x 0) true (x + 1) else spec_FewestCopies.l0 k s c y true (x + 1)) (fun k => rfl) (Ev.bind (SpecLess_ _ y (by omega) (by omega)) ?_)
        show Ev _ (resF (bst s c d (x + 1) (if lessB (mems c.length x 0) y = true then _ else _)))
        by_cases z : lessB (mems c.length x 0) y = true
        · rw [if_pos z]
          exact Ev.eq (fun k => if_pos z) (ih (x + 1) (some (mems c.length x 0)) (by omega) (by omega) (fun y hy => by obtain rfl := Option.some.inj hy; exact hm))
        · rw [if_neg z]
          exact Ev.eq (fun k => if_neg z) (ih (x + 1) (some y) (by omega) (by omega) (fun y hy => hb y hy))
    · rw [if_neg q]
      exact Ev.eq (fun k => if_neg q) (ih (x + 1) b (by omega) (by omega) hb)
end
def fewR (s : List Int) (c : List (List Int)) : List Int × Int := if codeC s c = 0 then resF (bst s c (2 ^ c.length) 0 none) else ([], codeC s c)
theorem fewR_len (s : List Int) (c : List (List Int)) : (fewR s c).1.length ≤ 8 := by
  unfold fewR
  by_cases q : codeC s c = 0
  · obtain ⟨_, _, _, o4⟩ := codeC_0 q
    rw [if_pos q]
    have := bst_len s c (2 ^ c.length) 0 none (fun y hy => by cases hy)
    cases h : bst s c (2 ^ c.length) 0 none with
    | none => simp [resF]
    | some y => have := this y h; show y.length ≤ 8; omega
  · rw [if_neg q]; simp
theorem SpecFewest_ (s : List Int) (hs : s.length ≤ 1048576) (c : List (List Int)) (hn : c.length ≤ 1048576) (ht : tot c ≤ 1048576) : Ev (fun k => spec_FewestCopies.f k s c) (fewR s c) := by
  refine Ev.eq (h := fun k => (spec_l22Copies.f k s c).bind fun t => if t = 0 then spec_FewestCopies.l0 k s c [] false 0 else some ([], t)) (fun k => rfl) (Ev.bind (SpecCodeC_ s hs c hn ht) ?_)
  unfold fewR
  by_cases q : codeC s c = 0
  · obtain ⟨o1, o2, o3, o4⟩ := codeC_0 q
    rw [if_pos q]
    exact Ev.eq (fun k => if_pos q) (specBest_0 s c (okT_says o1).1 o4 o3 (2 ^ c.length) 0 none (by omega) (by simp) (fun y hy => by cases hy))
  · rw [if_neg q]
    exact ⟨0, fun k _ => if_neg q⟩
theorem ImplFewest_ (s : List Int) (c : List (List Int)) : Ev (fun k => impl_FewestCopies.f k s c) (fewR s c) := by
  refine Ev.eq (h := fun k => if codeC s c = 0 then (if c.length ≤ 20 then (fcl k s c (2 ^ c.length) 0 none).bind fun b => match b with | none => some (([] : List Int), (3 : Int)) | some y => some (y, 0) else none) else some (([] : List Int), codeC s c)) (fun k => by unfold impl_FewestCopies.f; rw [ImplCodeC_]; rfl) ?_
  unfold fewR
  by_cases q : codeC s c = 0
  · obtain ⟨o1, o2, o3, o4⟩ := codeC_0 q
    rw [if_pos q]
    refine Ev.eq (h := fun k => (fcl k s c (2 ^ c.length) 0 none).bind fun b => some (resF b)) (fun k => ?_) (Ev.bind (implBest_ s c o4 o3 (2 ^ c.length) 0 none (by omega) (by simp)) ⟨0, fun k _ => rfl⟩)
    rw [if_pos q, if_pos (by omega)]
    congr 1
    funext b
    cases b <;> rfl
  · rw [if_neg q]
    exact ⟨0, fun k _ => if_neg q⟩

theorem held_l (l : List Int) (hl : l.length ≤ 1152921504606846976) : ∀ (d k : Nat) (i m : Int), (l.length : Int) - i = d → 0 ≤ i → 0 ≤ m → m + d ≤ 4611686018427387904 → d < k → (∀ j, i ≤ j → j < l.length → rd l j = m + (j - i)) → laws_heldInt64S.l0 k l m i = some (m + d) := by
  intro d
  induction d with
  | zero =>
    intro k i m hd h0 hm hm2 hk hr
    obtain ⟨k, rfl⟩ : ∃ m, k = m + 1 := ⟨k - 1, by omega⟩
    simp only [laws_heldInt64S.l0]; rw [if_neg (by omega)]; simp
  | succ d ih =>
    intro k i m hd h0 hm hm2 hk hr
    obtain ⟨k, rfl⟩ : ∃ m, k = m + 1 := ⟨k - 1, by omega⟩
    simp only [laws_heldInt64S.l0]
    rw [if_pos (by omega), if_pos h0, if_pos (by rw [hr i (by omega) (by omega)]; omega), w64 (n := m + 1) (by omega) (by omega), w64 (n := i + 1) (by omega) (by omega), ih k (i + 1) (m + 1) (by omega) (by omega) (by omega) (by omega) (by omega) (fun j g1 g2 => by rw [hr j (by omega) g2]; omega)]
    congr 1; omega
theorem mark_held (l : List Int) (hl : l.length ≤ 1152921504606846976) (k : Nat) (hk : l.length < k) (k' : Nat) (hk' : l.length < k') (k'' : Nat) (hk'' : l.length < k'') : ∃ l', laws_markInt64S.f k l 1 = some (1 + (l.length : Int), l') ∧ laws_heldInt64S.f k' l' 1 = some (1 + (l.length : Int)) ∧ laws_heldInt64S.f k'' l' 1 = some (1 + (l.length : Int)) := by
  obtain ⟨l', h1, h2, h3, h4⟩ := mark_l l.length k l 0 1 (by omega) (by omega) hl (by omega) (by omega) hk
  have hh : ∀ k, l.length < k → laws_heldInt64S.l0 k l' 1 0 = some (1 + (l.length : Int)) := fun k hk => held_l l' (by omega) l.length k 0 1 (by omega) (by omega) (by omega) (by omega) hk (fun j g1 g2 => h3 j g1 (by omega))
  refine ⟨l', ?_, ?_, ?_⟩
  · unfold laws_markInt64S.f; exact h1
  · unfold laws_heldInt64S.f; exact hh k' hk'
  · unfold laws_heldInt64S.f; exact hh k'' hk''

theorem mkH_ (l : List Int) (hl : l.length ≤ 1048576) : ∃ l', (∀ k, 1048577 ≤ k → laws_markInt64S.f k l 1 = some (1 + (l.length : Int), l')) ∧ ∀ k, 1048577 ≤ k → laws_heldInt64S.f k l' 1 = some (1 + (l.length : Int)) := by
  obtain ⟨l', h1, h2, h3⟩ := mark_held l (by omega) 1048577 (by omega) 1048577 (by omega) 1048577 (by omega)
  refine ⟨l', fun k hk => ?_, fun k hk => ?_⟩
  · exact at_rounds (g := fun k => laws_markInt64S.f k l 1) (fun k => laws_markInt64S.mono _ _ _) hk h1
  · exact at_rounds (g := fun k => laws_heldInt64S.f k l' 1) (fun k => laws_heldInt64S.mono _ _ _) hk h2

theorem FnExactFewestCopies : laws_FnExactFewestCopies.Pure := by
  intro s c _ _ _ hcm _ hcx
  obtain ⟨z, hz, K1, e1⟩ := szSS_ c hcm (fun x hx => (hcx x hx).1)
  dsimp only at e1
  by_cases hb : (s.length : Int) > 1048576
  · exact ⟨0, by unfold laws_FnExactFewestCopies.f; rw [if_pos hb]⟩
  by_cases hz0 : z < 0
  · refine ⟨K1, ?_⟩
    unfold laws_FnExactFewestCopies.f
    rw [if_neg hb, e1 _ (Nat.le_refl _)]; simp only [Option.bind_some]; rw [if_pos hz0]
  obtain ⟨hc, ht⟩ := hz (by omega)
  have hs : s.length ≤ 1048576 := by omega
  have hT := toInts_ s hs
  have hE := eqI_ s hs
  obtain ⟨K2, e2⟩ := toSS_ c hc ht
  obtain ⟨K3, e3⟩ := eqSS_ c hc ht
  obtain ⟨K4, e4⟩ := SpecFewest_ s hs c hc ht
  obtain ⟨K5, e5⟩ := ImplFewest_ s c
  obtain ⟨s', hM⟩ := mkI_ s hs 1 (by omega) (by omega)
  obtain ⟨K6, e6⟩ := mkSS_ c hc ht (1 + (s.length : Int)) (by omega) (by omega)
  dsimp only at e2 e3 e4 e5 e6
  have hrl := fewR_len s c
  generalize fewR s c = r at e4 e5 hrl
  obtain ⟨R, cd⟩ := r
  have hrl : R.length ≤ 8 := hrl
  have hER := eqI_ R (by omega)
  obtain ⟨R', hMR, hH⟩ := mkH_ R (by omega)
  have n1 : ¬ (1 + (s.length : Int) + (tot c : Int) < 0) := by omega
  have n2 : ¬ (1 + (R.length : Int) < 0) := by omega
  refine ⟨1048800 + (K1 + K2 + K3 + K4 + K5 + K6), ?_⟩
  generalize hk : 1048800 + (K1 + K2 + K3 + K4 + K5 + K6) = k
  unfold laws_FnExactFewestCopies.f
  rw [if_neg hb, e1 _ (by omega)]; simp only [Option.bind_some]
  rw [if_neg hz0, hT _ (by omega)]; simp only [Option.bind_some]
  rw [e2 _ (by omega)]; simp only [Option.bind_some]
  rw [e4 _ (by omega)]; simp only [Option.bind_some]
  rw [e5 _ (by omega)]; simp only [Option.bind_some, if_true]
  rw [hER _ (by omega)]; simp only [Option.bind_some, if_true]
  rw [hE _ (by omega)]; simp only [Option.bind_some, if_true]
  rw [e3 _ (by omega)]; simp only [Option.bind_some, if_true]
  rw [hM _ (by omega)]; simp only [Option.bind_some]
  rw [e6 _ (by omega)]; simp only [Option.bind_some]
  rw [if_neg n1, hMR _ (by omega)]; simp only [Option.bind_some]
  rw [hH _ (by omega)]; simp only [Option.bind_some]
  rw [if_neg n2]; simp

end Go.Proofs.Ytfajacoagaamlaa.Pure
