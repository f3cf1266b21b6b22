/- For all gores and times the program's QuickOrder answers as the reference's does, in memory of its own. No condition. -/
import Derived.Test.YtfpddpkloplpeaaQFnExactQuickOrderx4
import Derived.Test.YtfpddpkloplpeaaBase
namespace Go.Proofs.Ytfpddpkloplpeaa.Pure
open Go Go.RowKit Go.Proofs.Ytfpddpkloplpeaa.QFnExactQuickOrder Go.Proofs.YtfpddpkloplpeaaW.PrintWords Go.Proofs.YtfpddpkloplpeaaW.PrintLast Go.Proofs.YtfpddpkloplpeaaW.PrintMore Go.Proofs.Ytfpddpkloplpeaa.Base
set_option linter.unusedVariables false
set_option linter.unusedSimpArgs false

/-- From some number of rounds on the answer is r. -/
def Ev {α : Type} (g : Nat → Option α) (r : α) : Prop := ∃ K, ∀ k, K ≤ k → g k = some r
theorem Ev.step {α : Type} {g h : Nat → Option α} {r : α} (e : ∀ k, g (k + 1) = h k) (hr : Ev h r) : Ev g r := by
  obtain ⟨K, hK⟩ := hr
  refine ⟨K + 1, fun k hk => ?_⟩
  obtain ⟨k, rfl⟩ : ∃ m, k = m + 1 := ⟨k - 1, by omega⟩
  rw [e]; exact hK k (by omega)
theorem Ev.now {α : Type} {g : Nat → Option α} {r : α} (e : ∀ k, g (k + 1) = some r) : Ev g r := Ev.step (h := fun _ => some r) e ⟨0, fun _ _ => rfl⟩
theorem Ev.bind {α β : Type} {c : Nat → Option α} {f : Nat → α → Option β} {t : α} {r : β} (hc : Ev c t) (hf : Ev (fun k => f k t) r) : Ev (fun k => (c k).bind (f k)) r := by
  obtain ⟨K, hK⟩ := hc
  obtain ⟨L, hL⟩ := hf
  exact ⟨K + L, fun k hk => by show (c k).bind (f k) = some r; rw [hK k (by omega)]; exact hL k (by omega)⟩
theorem Ev.eq {α : Type} {g h : Nat → Option α} {r : α} (e : ∀ k, g k = h k) (hr : Ev h r) : Ev g r := by
  obtain ⟨K, hK⟩ := hr
  exact ⟨K, fun k hk => by rw [e]; exact hK k hk⟩

theorem rd_get (l : List Int) (j : Nat) (h : j < l.length) : rd l (j : Int) = l[j] := by
  unfold rd; rw [Int.toNat_natCast, List.getD_eq_getElem?_getD, List.getElem?_eq_getElem h]; rfl
theorem has_l (l : List Int) (x : Int) (hl : l.length ≤ 1048576) : ∀ (d : Nat) (i : Nat), l.length - i = d → i ≤ l.length → ∀ r : Bool, (r = true ↔ x ∈ l.drop i) → Ev (fun k => spec_l00Has.l0 k l x (i : Int)) r := by
  intro d
  induction d with
  | zero =>
    intro i hd hi r hr
    have : r = false := by
      cases r with
      | false => rfl
      | true => have := hr.1 rfl; rw [List.drop_eq_nil_of_le (by omega)] at this; cases this
    subst this
    refine Ev.now (fun k => ?_)
    simp only [spec_l00Has.l0]
    rw [if_neg (by omega)]
  | succ d ih =>
    intro i hd hi r hr
    rw [List.drop_eq_getElem_cons (show i < l.length by omega), List.mem_cons] at hr
    have e : ∀ k, spec_l00Has.l0 (k + 1) l x (i : Int) = if rd l (i : Int) = x then some true else spec_l00Has.l0 k l x ((i + 1 : Nat) : Int) := by
      intro k
      simp only [spec_l00Has.l0]
      rw [if_pos (by omega), if_pos (by omega), w64 (n := (i : Int) + 1) (by omega) (by omega)]; rfl
    have hg := rd_get l i (by omega)
    by_cases q : rd l (i : Int) = x
    · have : r = true := hr.2 (.inl (by rw [← q, hg]))
      subst this
      exact Ev.now (fun k => by rw [e, if_pos q])
    · refine Ev.step (fun k => by rw [e, if_neg q]) (ih (i + 1) (by omega) (by omega) r (hr.trans ⟨fun h => h.elim (fun h => absurd (by rw [hg]; exact h.symm) q) id, .inr⟩))
theorem Has_ (l : List Int) (x : Int) (hl : l.length ≤ 1048576) : Ev (fun k => spec_l00Has.f k l x) (decide (x ∈ l)) :=
  has_l l x hl l.length 0 rfl (by omega) _ (by rw [List.drop_zero]; exact decide_eq_true_iff)

theorem In_ (a b c : Int) : spec_l00In.f a b c = some (decide (b ≤ a ∧ a ≤ c)) := by
  unfold spec_l00In.f
  by_cases h : a ≥ b
  · rw [if_pos h]; simp [show b ≤ a from h]
  · rw [if_neg h]; simp [show ¬ b ≤ a from h]

theorem within_ (a b c : Int) : impl_within.f a b c = some (decide (b ≤ a ∧ a ≤ c)) := by
  unfold impl_within.f
  by_cases h : a ≥ b
  · rw [if_pos h]; simp [show b ≤ a from h]
  · rw [if_neg h]; simp [show ¬ b ≤ a from h]

/-- A valid order: each gore once. -/
def okO (l : List Int) : Bool := decide (2 ≤ l.length ∧ l.length ≤ 12 ∧ (∀ x ∈ l, 0 ≤ x ∧ x < l.length) ∧ l.Nodup)
theorem okO_iff (l : List Int) : okO l = true ↔ (2 ≤ l.length ∧ l.length ≤ 12 ∧ (∀ x ∈ l, 0 ≤ x ∧ x < l.length) ∧ l.Nodup) := by
  unfold okO; exact decide_eq_true_iff
theorem nodup_rd (l : List Int) : l.Nodup ↔ ∀ j : Nat, j < l.length → rd l (j : Int) ∉ l.take j := by
  rw [List.nodup_iff_pairwise_ne, List.pairwise_iff_getElem]
  constructor
  · intro h j hj hm
    obtain ⟨i, hi, he⟩ := List.mem_take_iff_getElem.1 hm
    rw [rd_get l j hj] at he
    exact h i j (by omega) hj (by omega) he
  · intro h i j hi hj hij e
    refine h j hj (List.mem_take_iff_getElem.2 ⟨i, by omega, ?_⟩)
    rw [rd_get l j hj]; exact e
theorem okO_rd (l : List Int) (h1 : 2 ≤ l.length) (h2 : l.length ≤ 12) : okO l = true ↔ ∀ j : Nat, 0 ≤ j → j < l.length → 0 ≤ rd l (j : Int) ∧ rd l (j : Int) < l.length ∧ rd l (j : Int) ∉ l.take j := by
  rw [okO_iff, nodup_rd]
  constructor
  · rintro ⟨_, _, h3, h4⟩ j _ hj
    have := h3 (rd l (j : Int)) (by rw [rd_get l j hj]; exact List.getElem_mem _)
    exact ⟨this.1, this.2, h4 j hj⟩
  · intro h
    refine ⟨h1, h2, fun x hx => ?_, fun j hj => (h j (by omega) hj).2.2⟩
    obtain ⟨j, hj, he⟩ := List.getElem_of_mem hx
    have := h j (by omega) hj
    rw [rd_get l j hj, he] at this
    exact ⟨this.1, this.2.1⟩


theorem arr_rd (S : List Int) (j : Nat) : S.toArray[j]! = rd S (j : Int) := by
  unfold rd; simp [List.getElem!_eq_getElem?_getD, List.getD_eq_getElem?_getD]
/-- The sorted list. -/
def srt (l : List Int) : List Int := l.mergeSort fun x y => decide (x ≤ y)
theorem srt_perm (l : List Int) : (srt l).Perm l := List.mergeSort_perm _ _
theorem srt_len (l : List Int) : (srt l).length = l.length := (srt_perm l).length_eq
theorem srt_le (l : List Int) (i j : Nat) (hij : i < j) (hj : j < l.length) : rd (srt l) (i : Int) ≤ rd (srt l) (j : Int) := by
  have h := List.pairwise_mergeSort (le := fun (x y : Int) => decide (x ≤ y)) (fun a b c h1 h2 => by simp at *; omega) (fun a b => by simp; omega) l
  have h := List.pairwise_iff_getElem.1 h
  have hl := srt_len l
  rw [rd_get _ i (by omega), rd_get _ j (by omega)]
  have := h i j (by show i < (srt l).length; omega) (by show j < (srt l).length; omega) hij
  exact of_decide_eq_true this
theorem lt_all (C : List Int) (h : ∀ j : Nat, j < C.length → 0 < j → rd C ((j - 1 : Nat) : Int) < rd C (j : Int)) : ∀ (d i : Nat), i + d + 1 < C.length → rd C (i : Int) < rd C ((i + d + 1 : Nat) : Int) := by
  intro d
  induction d with
  | zero => intro i hi; have := h (i + 1) (by omega) (by omega); simpa using this
  | succ d ih =>
    intro i hi
    have h1 := ih i (by omega)
    have h2 := h (i + (d + 1) + 1) (by omega) (by omega)
    rw [show i + (d + 1) + 1 - 1 = i + d + 1 by omega] at h2
    omega


/-- From some number of rounds on there is an answer, one that is as told. -/
def EvP {α : Type} (g : Nat → Option α) (Q : α → Prop) : Prop := ∃ r, Q r ∧ Ev g r
theorem EvP.step {α : Type} {g h : Nat → Option α} {Q : α → Prop} (e : ∀ k, g (k + 1) = h k) (hr : EvP h Q) : EvP g Q := by
  obtain ⟨r, hq, hr⟩ := hr
  exact ⟨r, hq, Ev.step e hr⟩
theorem EvP.eq {α : Type} {g h : Nat → Option α} {Q : α → Prop} (e : ∀ k, g k = h k) (hr : EvP h Q) : EvP g Q := by
  obtain ⟨r, hq, hr⟩ := hr
  exact ⟨r, hq, Ev.eq e hr⟩
theorem EvP.bind {α β : Type} {c : Nat → Option α} {f : Nat → α → Option β} {P : α → Prop} {Q : β → Prop} (hc : EvP c P) (hf : ∀ t, P t → EvP (fun k => f k t) Q) : EvP (fun k => (c k).bind (f k)) Q := by
  obtain ⟨t, hp, hc⟩ := hc
  obtain ⟨r, hq, hr⟩ := hf t hp
  exact ⟨r, hq, Ev.bind hc hr⟩

theorem rd_set_s (l : List Int) (i : Int) (v : Int) (h0 : 0 ≤ i) (h : i < l.length) : rd (l.set i.toNat v) i = v := by
  unfold rd; simp [List.getD_eq_getElem?_getD, List.getElem?_set, show i.toNat < l.length by omega]
theorem rd_set_o (l : List Int) (i j : Int) (v : Int) (h0 : 0 ≤ i) (h1 : 0 ≤ j) (h : i ≠ j) : rd (l.set i.toNat v) j = rd l j := by
  unfold rd; simp [List.getD_eq_getElem?_getD, List.getElem?_set, show ¬ i.toNat = j.toNat by omega]
theorem up_all (C : List Int) (h : ∀ j : Nat, j < C.length → 0 < j → rd C ((j - 1 : Nat) : Int) < rd C (j : Int)) : ∀ (d i : Nat), i + d < C.length → rd C (i : Int) + d ≤ rd C ((i + d : Nat) : Int) := by
  intro d
  induction d with
  | zero => intro i hi; simp
  | succ d ih =>
    intro i hi
    have h1 := ih i (by omega)
    have h2 := h (i + (d + 1)) (by omega) (by omega)
    rw [show i + (d + 1) - 1 = i + d by omega] at h2
    omega
theorem rd_in' (l : List Int) (j : Nat) (h : j < l.length) : rd l (j : Int) ∈ l := by rw [rd_get l j h]; exact List.getElem_mem _
theorem all_in {l : List Int} (h : okO l = true) (x : Int) (x0 : 0 ≤ x) (x1 : x < l.length) : x ∈ l := by
  obtain ⟨h1, h2, h3, h4⟩ := (okO_iff l).1 h
  have hl := srt_len l
  have hn : (srt l).Nodup := (srt_perm l).nodup_iff.2 h4
  have hup := up_all (srt l) (fun j hj h0 => by
    have a := srt_le l (j - 1) j (by omega) (by omega)
    have b := List.pairwise_iff_getElem.1 (List.nodup_iff_pairwise_ne.1 hn) (j - 1) j (by omega) hj (by omega)
    rw [rd_get _ j hj, rd_get _ (j - 1) (by omega)] at a ⊢
    omega)
  have hr : ∀ j : Nat, j < l.length → 0 ≤ rd (srt l) (j : Int) ∧ rd (srt l) (j : Int) < l.length := fun j hj => h3 _ ((srt_perm l).mem_iff.1 (rd_in' _ j (by omega)))
  have a := hup x.toNat 0 (by omega)
  have b := hup (l.length - 1 - x.toNat) x.toNat (by omega)
  rw [show 0 + x.toNat = x.toNat by omega] at a
  rw [show x.toNat + (l.length - 1 - x.toNat) = l.length - 1 by omega] at b
  have c := hr 0 (by omega)
  have d := hr (l.length - 1) (by omega)
  have e : rd (srt l) ((x.toNat : Nat) : Int) = x := by omega
  have := rd_in' (srt l) x.toNat (by omega)
  rw [e] at this
  exact (srt_perm l).mem_iff.1 this
theorem rd_inj {l : List Int} (h : l.Nodup) (i j : Nat) (hi : i < l.length) (hj : j < l.length) (e : rd l (i : Int) = rd l (j : Int)) : i = j := by
  have hp := List.pairwise_iff_getElem.1 (List.nodup_iff_pairwise_ne.1 h)
  rw [rd_get l i hi, rd_get l j hj] at e
  rcases Nat.lt_trichotomy i j with g | g | g
  · exact absurd e (hp i j hi hj g)
  · exact g
  · exact absurd e.symm (hp j i hj hi g)
/-- Where a gore stands in an order. -/
def pos (l : List Int) (x : Int) : Nat := l.idxOf x
theorem pos_says {l : List Int} (h : okO l = true) (x : Int) (x0 : 0 ≤ x) (x1 : x < l.length) : pos l x < l.length ∧ rd l (pos l x : Int) = x := by
  have hm := all_in h x x0 x1
  have hlt : pos l x < l.length := List.idxOf_lt_length_iff.2 hm
  exact ⟨hlt, by rw [rd_get l _ hlt]; exact List.getElem_idxOf hlt⟩
theorem rd_ok {l : List Int} (h : okO l = true) (j : Nat) (hj : j < l.length) : 0 ≤ rd l (j : Int) ∧ rd l (j : Int) < l.length := ((okO_iff l).1 h).2.2.1 _ (rd_in' l j hj)
theorem pos_rd {l : List Int} (h : okO l = true) (i : Nat) (hi : i < l.length) : pos l (rd l (i : Int)) = i := by
  have hr := rd_ok h i hi
  obtain ⟨h1, h2⟩ := pos_says h _ hr.1 hr.2
  exact rd_inj ((okO_iff l).1 h).2.2.2 _ _ h1 hi h2

theorem tmod_in (k n : Int) (h0 : 0 ≤ k) (h1 : 0 < n) : 0 ≤ Int.tmod k n ∧ Int.tmod k n < n := ⟨Int.tmod_nonneg _ h0, Int.tmod_lt_of_pos _ h1⟩

theorem Max_ (a b : Int) : spec_l00Max.f a b = some (mx a b) := by
  unfold spec_l00Max.f mx
  by_cases h : a > b
  · rw [if_pos h, if_neg (by omega)]
  · rw [if_neg h]; by_cases h2 : a < b
    · rw [if_pos h2]
    · rw [if_neg h2, show a = b by omega]

theorem gd_ext {α : Type} (z : α) (a l : List α) (h : a.length = l.length) (h2 : ∀ j : Int, 0 ≤ j → j < l.length → a.getD j.toNat z = l.getD j.toNat z) : a = l := by
  apply List.ext_getElem h
  intro n h1 h3
  have := h2 n (by omega) (by omega)
  rw [List.getD_eq_getElem?_getD, List.getD_eq_getElem?_getD, Int.toNat_natCast, List.getElem?_eq_getElem h1, List.getElem?_eq_getElem h3] at this
  exact this
theorem gd_same {α : Type} (z : α) (l : List α) (i : Int) (v : α) (h0 : 0 ≤ i) (h : i < l.length) : (l.set i.toNat v).getD i.toNat z = v := by
  simp [List.getD_eq_getElem?_getD, List.getElem?_set, show i.toNat < l.length by omega]
theorem gd_other {α : Type} (z : α) (l : List α) (i j : Int) (v : α) (h0 : 0 ≤ i) (h1 : 0 ≤ j) (h : i ≠ j) : (l.set i.toNat v).getD j.toNat z = l.getD j.toNat z := by
  simp [List.getD_eq_getElem?_getD, List.getElem?_set, show ¬ i.toNat = j.toNat by omega]
theorem gd_in {α : Type} (z : α) (l : List α) (i : Int) (h0 : 0 ≤ i) (h : i < l.length) : l.getD i.toNat z ∈ l := by
  rw [List.getD_eq_getElem?_getD, List.getElem?_eq_getElem (by omega)]
  exact List.getElem_mem _
theorem gd_map {α β : Type} (z : α) (y : β) (f : α → β) (l : List α) (i : Int) (h0 : 0 ≤ i) (h : i < l.length) : (l.map f).getD i.toNat y = f (l.getD i.toNat z) := by
  rw [List.getD_eq_getElem?_getD, List.getD_eq_getElem?_getD, List.getElem?_map, List.getElem?_eq_getElem (by omega)]
  rfl
theorem size64 {n : Nat} (h : n ≤ maxLen) : (n : Int) ≤ 9223372036854775807 := by
  have e : maxLen = 9223372036854775807 := by decide
  omega

theorem ext_rd (a b : List Int) (h : a.length = b.length) (h2 : ∀ x : Int, 0 ≤ x → x < b.length → rd a x = rd b x) : a = b := gd_ext (0 : Int) a b h (fun j h0 h1 => h2 j h0 h1)
def nb (n k y : Int) : Prop := y = Int.tmod (k + 1) n ∨ y = Int.tmod (k + n - 1) n
/-- When a gore is pasted: not before the hands are free, not before its neighbours among the first j are dry, and no later. -/
def IsM (l out : List Int) (e dr now k : Int) (j : Nat) (m : Int) : Prop := now ≤ m ∧ (∀ q : Nat, q < j → nb l.length k (rd l (q : Int)) → rd out (rd l (q : Int)) + e + dr ≤ m) ∧ (m = now ∨ ∃ q : Nat, q < j ∧ nb l.length k (rd l (q : Int)) ∧ m = rd out (rd l (q : Int)) + e + dr)
theorem IsM.one {l out : List Int} {e dr now k : Int} {j : Nat} {m m' : Int} (h : IsM l out e dr now k j m) (h' : IsM l out e dr now k j m') : m = m' := by
  obtain ⟨a1, a2, a3⟩ := h
  obtain ⟨b1, b2, b3⟩ := h'
  have x : m ≤ m' := by
    rcases a3 with a3 | ⟨q, q1, q2, q3⟩
    · omega
    · have := b2 q q1 q2; omega
  have y : m' ≤ m := by
    rcases b3 with b3 | ⟨q, q1, q2, q3⟩
    · omega
    · have := a2 q q1 q2; omega
  omega
structure RelS (l : List Int) (e M : Int) (i : Nat) (out st : List Int) (now : Int) : Prop where
  lo : out.length = l.length
  ls : st.length = l.length
  n0 : 0 ≤ now
  n1 : now ≤ M
  done : ∀ q : Nat, q < i → 0 ≤ rd out (rd l (q : Int)) ∧ rd out (rd l (q : Int)) + e ≤ now
  last : 0 < i → now = rd out (rd l ((i - 1 : Nat) : Int)) + e
  same : ∀ x : Int, 0 ≤ x → x < l.length → rd st x = if pos l x < i then rd out x else -1
section
variable {l : List Int} (h : okO l = true) (e dr : Int) (e0 : 1 ≤ e) (e1 : e ≤ 1000) (d0 : 0 ≤ dr) (d1 : dr ≤ 1000)
include h e0 e1 d0 d1
theorem specStarts_1 (i : Nat) (hi : i < l.length) (out : List Int) (now M : Int) (hM : M ≤ 100000) (ho : out.length = l.length) (n0 : 0 ≤ now) (n1 : now ≤ M) (hd : ∀ q : Nat, q < i → 0 ≤ rd out (rd l (q : Int)) ∧ rd out (rd l (q : Int)) + e ≤ now) (r : List Int) (hn : ∀ m, IsM l out e dr now (rd l (i : Int)) i m → Ev (fun k => spec_l18Starts.l0 k l e dr (l.length : Int) (out.set (rd l (i : Int)).toNat m) (m + e) ((i + 1 : Nat) : Int)) r) : ∀ (d j : Nat) (m : Int), i - j = d → j ≤ i → IsM l out e dr now (rd l (i : Int)) j m → Ev (fun k => spec_l18Starts.l1 k l e dr (l.length : Int) out (i : Int) (rd l (i : Int)) m (j : Int)) r := by
  have ok := (okO_iff l).1 h
  have hk := rd_ok h i hi
  intro d
  induction d with
  | zero =>
    intro j m hd' hj hm
    obtain rfl : j = i := by omega
    have hmb : m ≤ M + 2000 := by
      rcases hm.2.2 with g | ⟨q, q1, q2, q3⟩
      · omega
      · have := hd q q1; omega
    have hm0 := hm.1
    refine Ev.step (fun k => ?_) (hn m hm)
    simp only [spec_l18Starts.l1]
    rw [if_neg (by omega), if_pos hk.1, if_pos (by omega), w64 (n := m + e) (by omega) (by omega), w64 (n := (j : Int) + 1) (by omega) (by omega)]; rfl
  | succ d ih =>
    intro j m hd' hj hm
    have hy := rd_ok h j (by omega)
    have hc := hd j (by omega)
    have es : ∀ k, spec_l18Starts.l1 (k + 1) l e dr (l.length : Int) out (i : Int) (rd l (i : Int)) m (j : Int) = if rd l (j : Int) = Int.tmod (rd l (i : Int) + 1) l.length ∨ rd l (j : Int) = Int.tmod (rd l (i : Int) + l.length - 1) l.length then spec_l18Starts.l1 k l e dr (l.length : Int) out (i : Int) (rd l (i : Int)) (mx m (rd out (rd l (j : Int)) + e + dr)) ((j + 1 : Nat) : Int) else spec_l18Starts.l1 k l e dr (l.length : Int) out (i : Int) (rd l (i : Int)) m ((j + 1 : Nat) : Int) := by
      intro k
      simp only [spec_l18Starts.l1]
      rw [if_pos (by omega), if_pos (by omega), if_pos (by omega), if_neg (by omega), w64 (n := rd l (i : Int) + 1) (by omega) (by omega), w64 (n := rd l (i : Int) + (l.length : Int)) (by omega) (by omega), w64 (n := rd l (i : Int) + (l.length : Int) - 1) (by omega) (by omega), w64 (n := rd out (rd l (j : Int)) + e) (by omega) (by omega), w64 (n := rd out (rd l (j : Int)) + e + dr) (by omega) (by omega), w64 (n := (j : Int) + 1) (by omega) (by omega)]
      by_cases a : rd l (j : Int) = Int.tmod (rd l (i : Int) + 1) l.length
      · rw [if_pos a, if_pos hy.1, if_pos (by omega), Max_, if_pos (.inl a)]; rfl
      · rw [if_neg a]
        by_cases b : rd l (j : Int) = Int.tmod (rd l (i : Int) + l.length - 1) l.length
        · rw [if_pos b, if_pos hy.1, if_pos (by omega), Max_, if_pos (.inr b)]; rfl
        · rw [if_neg b, if_neg (fun g => g.elim a b)]; rfl
    have hmx : mx m (rd out (rd l (j : Int)) + e + dr) = m ∧ rd out (rd l (j : Int)) + e + dr ≤ m ∨ mx m (rd out (rd l (j : Int)) + e + dr) = rd out (rd l (j : Int)) + e + dr ∧ m ≤ rd out (rd l (j : Int)) + e + dr := by unfold mx; split <;> omega
    by_cases a : rd l (j : Int) = Int.tmod (rd l (i : Int) + 1) l.length ∨ rd l (j : Int) = Int.tmod (rd l (i : Int) + l.length - 1) l.length
    · refine Ev.step (fun k => by rw [es, if_pos a]) (ih (j + 1) _ (by omega) (by omega) ?_)
      generalize mx m (rd out (rd l (j : Int)) + e + dr) = m' at hmx
      refine ⟨by have := hm.1; omega, fun q q1 q2 => ?_, ?_⟩
      · by_cases g : q = j
        · subst g; omega
        · have := hm.2.1 q (by omega) q2; omega
      · rcases hmx with ⟨g, _⟩ | ⟨g, _⟩
        · rcases hm.2.2 with z | ⟨q, q1, q2, q3⟩
          · exact .inl (by omega)
          · exact .inr ⟨q, by omega, q2, by omega⟩
        · exact .inr ⟨j, by omega, a, g⟩
    · refine Ev.step (fun k => by rw [es, if_neg a]) (ih (j + 1) m (by omega) (by omega) ⟨hm.1, fun q q1 q2 => ?_, ?_⟩)
      · by_cases g : q = j
        · subst g; exact absurd q2 a
        · exact hm.2.1 q (by omega) q2
      · rcases hm.2.2 with z | ⟨q, q1, q2, q3⟩
        · exact .inl z
        · exact .inr ⟨q, by omega, q2, q3⟩
/-- What one neighbour does to the time. -/
def step2 (st : List Int) (e dr y m : Int) : Int := if rd st y ≥ 0 then mx m (rd st y + e + dr) else m
theorem implStarts_1 (i : Nat) (hi : i < l.length) (out st : List Int) (now M : Int) (hM : M ≤ 100000) (R : RelS l e M i out st now) (r : List Int) (hn : ∀ m, IsM l out e dr now (rd l (i : Int)) i m → Ev (fun k => impl_startsOfPasting.l0 k e dr (l.length : Int) (st.set (rd l (i : Int)).toNat m) (m + e) l (l.length : Int) ((i + 1 : Nat) : Int)) r) : Ev (fun k => impl_startsOfPasting.l0 k e dr (l.length : Int) st now l (l.length : Int) (i : Int)) r := by
  have ok := (okO_iff l).1 h
  have hk := rd_ok h i hi
  have ta := tmod_in (rd l (i : Int) + 1) (l.length : Int) (by omega) (by omega)
  have tb := tmod_in (rd l (i : Int) + l.length - 1) (l.length : Int) (by omega) (by omega)
  have n0 := R.n0
  have n1 := R.n1
  have ls := R.ls
  refine Ev.step (h := fun k => impl_startsOfPasting.l1 k e dr (l.length : Int) st (rd l (i : Int)) now l (l.length : Int) (i : Int) [Int.tmod (rd l (i : Int) + 1) l.length, Int.tmod (rd l (i : Int) + l.length - 1) l.length] 2 0) (fun k => ?_) ?_
  · simp only [impl_startsOfPasting.l0]
    rw [if_pos (by omega), if_pos (by omega), if_pos (by omega), if_neg (by omega), w64 (n := rd l (i : Int) + 1) (by omega) (by omega), w64 (n := rd l (i : Int) + (l.length : Int)) (by omega) (by omega), w64 (n := rd l (i : Int) + (l.length : Int) - 1) (by omega) (by omega)]; rfl
  have st2 : ∀ (x : Int) (m : Int), 0 ≤ x → x < l.length → now ≤ m → m ≤ M + 2000 → (∀ Z : List Int, (Z = out) → True) → ∃ m', m' = step2 st e dr x m ∧ (now ≤ m' ∧ m' ≤ M + 2000) ∧ (m ≤ m') ∧ (pos l x < i → rd out x + e + dr ≤ m') ∧ (m' = m ∨ pos l x < i ∧ m' = rd out x + e + dr) ∧ (rd st x ≥ 0 → wrap64 (wrap64 (rd st x + e) + dr) = rd st x + e + dr) := by
    intro x m x0 x1 g0 g1 _
    have hs := R.same x x0 x1
    refine ⟨_, rfl, ?_⟩
    by_cases c : pos l x < i
    · rw [if_pos c] at hs
      obtain ⟨p1, p2⟩ := pos_says h x x0 x1
      have hd := R.done (pos l x) c
      rw [p2] at hd
      have hmx : mx m (rd st x + e + dr) = m ∧ rd st x + e + dr ≤ m ∨ mx m (rd st x + e + dr) = rd st x + e + dr ∧ m ≤ rd st x + e + dr := by unfold mx; split <;> omega
      unfold step2
      rw [if_pos (by omega)]
      generalize mx m (rd st x + e + dr) = m' at hmx
      refine ⟨by omega, by omega, fun _ => by omega, ?_, fun _ => ?_⟩
      · rcases hmx with ⟨a, _⟩ | ⟨a, _⟩
        · exact .inl a
        · exact .inr ⟨c, by omega⟩
      · rw [w64 (n := rd st x + e) (by omega) (by omega), w64 (n := rd st x + e + dr) (by omega) (by omega)]
    · rw [if_neg c] at hs
      unfold step2
      rw [if_neg (by omega)]
      exact ⟨⟨g0, g1⟩, Int.le_refl _, fun g => absurd g c, .inl rfl, fun g => by omega⟩
  obtain ⟨m1, q1, q2, q3, q4, q5, q6⟩ := st2 _ now ta.1 ta.2 (Int.le_refl _) (by omega) (fun _ _ => trivial)
  obtain ⟨m2, s1, s2, s3, s4, s5, s6⟩ := st2 _ m1 tb.1 tb.2 q2.1 q2.2 (fun _ _ => trivial)
  have fin : IsM l out e dr now (rd l (i : Int)) i m2 := by
    refine ⟨s2.1, fun q z1 z2 => ?_, ?_⟩
    · have hp := pos_rd h q (by omega)
      rcases z2 with z2 | z2
      · rw [← z2] at q4; have := q4 (by omega); omega
      · rw [← z2] at s4; have := s4 (by omega); omega
    · rcases s5 with s5 | ⟨c, s5⟩
      · rcases q5 with q5 | ⟨c, q5⟩
        · exact .inl (by omega)
        · obtain ⟨p1, p2⟩ := pos_says h _ ta.1 ta.2
          exact .inr ⟨_, c, by rw [p2]; exact .inl rfl, by rw [p2]; omega⟩
      · obtain ⟨p1, p2⟩ := pos_says h _ tb.1 tb.2
        exact .inr ⟨_, c, by rw [p2]; exact .inr rfl, by rw [p2]; omega⟩
  generalize Int.tmod (rd l (i : Int) + 1) l.length = a at *
  generalize Int.tmod (rd l (i : Int) + l.length - 1) l.length = b at *
  have ra : rd [a, b] 0 = a := rfl
  have rb : rd [a, b] 1 = b := rfl
  have lab : (([a, b] : List Int).length : Int) = 2 := rfl
  refine Ev.step (h := fun k => impl_startsOfPasting.l1 k e dr (l.length : Int) st (rd l (i : Int)) m1 l (l.length : Int) (i : Int) [a, b] 2 1) (fun k => ?_) ?_
  · simp only [impl_startsOfPasting.l1]
    rw [if_pos (by omega), if_pos (by omega), if_pos (by omega), ra, if_pos ta.1, if_pos (by omega), w64 (n := (0 : Int) + 1) (by omega) (by omega), q1]
    unfold step2
    by_cases c : rd st a ≥ 0
    · rw [if_pos c, if_pos c, q6 c]; rfl
    · rw [if_neg c, if_neg c]; rfl
  refine Ev.step (h := fun k => impl_startsOfPasting.l1 k e dr (l.length : Int) st (rd l (i : Int)) m2 l (l.length : Int) (i : Int) [a, b] 2 2) (fun k => ?_) ?_
  · simp only [impl_startsOfPasting.l1]
    rw [if_pos (by omega), if_pos (by omega), if_pos (by omega), rb, if_pos tb.1, if_pos (by omega), w64 (n := (1 : Int) + 1) (by omega) (by omega), s1]
    unfold step2
    by_cases c : rd st b ≥ 0
    · rw [if_pos c, if_pos c, s6 c]; rfl
    · rw [if_neg c, if_neg c]; rfl
  refine Ev.step (fun k => ?_) (hn m2 fin)
  simp only [impl_startsOfPasting.l1]
  rw [if_neg (by omega), if_pos hk.1, if_pos (by omega), w64 (n := m2 + e) (by omega) (by omega), w64 (n := (i : Int) + 1) (by omega) (by omega)]; rfl
theorem RelS.next {i : Nat} (hi : i < l.length) {out st : List Int} {now M : Int} (R : RelS l e M i out st now) {m : Int} (hm : IsM l out e dr now (rd l (i : Int)) i m) : RelS l e (M + 3000) (i + 1) (out.set (rd l (i : Int)).toNat m) (st.set (rd l (i : Int)).toNat m) (m + e) := by
  have hn := (okO_iff l).1 h
  have hk := rd_ok h i hi
  have hm0 := hm.1
  have n0 := R.n0
  have n1 := R.n1
  have lo := R.lo
  have ls := R.ls
  have hmb : m ≤ M + 2000 := by
    rcases hm.2.2 with g | ⟨q, q1, q2, q3⟩
    · omega
    · have := R.done q q1; omega
  refine ⟨by simpa using R.lo, by simpa using R.ls, by omega, by omega, fun q hq => ?_, fun _ => ?_, fun x x0 x1 => ?_⟩
  · by_cases g : q = i
    · subst g; rw [rd_set_s _ _ _ hk.1 (by omega)]; omega
    · have hy := rd_ok h q (by omega)
      rw [rd_set_o _ _ _ _ hk.1 hy.1 (fun z => g (rd_inj hn.2.2.2 _ _ (by omega) (by omega) z.symm))]
      have := R.done q (by omega); omega
  · rw [show i + 1 - 1 = i by omega, rd_set_s _ _ _ hk.1 (by omega)]
  · obtain ⟨p1, p2⟩ := pos_says h x x0 x1
    have hs := R.same x x0 x1
    by_cases g : x = rd l (i : Int)
    · have hp := pos_rd h i hi
      rw [← g] at hp
      rw [if_pos (by omega), g, rd_set_s _ _ _ hk.1 (by omega), rd_set_s _ _ _ hk.1 (by omega)]
    · have hp : pos l x ≠ i := fun z => g (by rw [← z, p2])
      rw [rd_set_o _ _ _ _ hk.1 x0 (fun z => g z.symm), rd_set_o _ _ _ _ hk.1 x0 (fun z => g z.symm), hs]
      by_cases z : pos l x < i
      · rw [if_pos z, if_pos (by omega)]
      · rw [if_neg z, if_neg (by omega)]
theorem starts_0 : ∀ (d i : Nat) (out st : List Int) (now M : Int), l.length - i = d → i ≤ l.length → M = 3000 * i → RelS l e M i out st now → ∃ r : List Int, Ev (fun k => spec_l18Starts.l0 k l e dr (l.length : Int) out now (i : Int)) r ∧ Ev (fun k => impl_startsOfPasting.l0 k e dr (l.length : Int) st now l (l.length : Int) (i : Int)) r ∧ r.length = l.length ∧ ∀ x : Int, 0 ≤ x → x < l.length → 0 ≤ rd r x ∧ rd r x ≤ 100000 ∧ rd r x ≤ rd r (rd l ((l.length - 1 : Nat) : Int)) := by
  have hn := (okO_iff l).1 h
  intro d
  induction d with
  | zero =>
    intro i out st now M hd hi hM R
    obtain rfl : i = l.length := by omega
    have hos : st = out := ext_rd _ _ (by rw [R.ls, R.lo]) (fun x x0 x1 => by
      rw [R.lo] at x1
      have := R.same x x0 x1
      rw [if_pos (pos_says h x x0 x1).1] at this
      exact this)
    subst hos
    refine ⟨st, Ev.now (fun k => ?_), Ev.now (fun k => ?_), R.lo, fun x x0 x1 => ?_⟩
    · simp only [spec_l18Starts.l0]
      rw [if_neg (by omega)]
    · simp only [impl_startsOfPasting.l0]
      rw [if_neg (by omega)]
    · obtain ⟨p1, p2⟩ := pos_says h x x0 x1
      have a := R.done (pos l x) p1
      rw [p2] at a
      have b := R.last (by omega)
      have c := R.n1
      omega
  | succ d ih =>
    intro i out st now M hd hi hM R
    obtain ⟨m, hm⟩ : ∃ m, IsM l out e dr now (rd l (i : Int)) i m := by
      have : ∀ j : Nat, j ≤ i → ∃ m, IsM l out e dr now (rd l (i : Int)) j m := by
        intro j
        induction j with
        | zero => intro _; exact ⟨now, Int.le_refl _, fun q hq => by omega, .inl rfl⟩
        | succ j ihj =>
          intro hj
          obtain ⟨m, a1, a2, a3⟩ := ihj (by omega)
          by_cases c : nb l.length (rd l (i : Int)) (rd l (j : Int)) ∧ m ≤ rd out (rd l (j : Int)) + e + dr
          · refine ⟨rd out (rd l (j : Int)) + e + dr, by omega, fun q q1 q2 => ?_, .inr ⟨j, by omega, c.1, rfl⟩⟩
            by_cases g : q = j
            · subst g; omega
            · have := a2 q (by omega) q2; omega
          · refine ⟨m, a1, fun q q1 q2 => ?_, ?_⟩
            · by_cases g : q = j
              · subst g
                by_cases z : m ≤ rd out (rd l (q : Int)) + e + dr
                · exact absurd ⟨q2, z⟩ c
                · omega
              · exact a2 q (by omega) q2
            · rcases a3 with a3 | ⟨q, q1, q2, q3⟩
              · exact .inl a3
              · exact .inr ⟨q, by omega, q2, q3⟩
      exact this i (Nat.le_refl _)
    obtain ⟨r, r1, r2, r3, r4⟩ := ih (i + 1) _ _ _ (M + 3000) (by omega) (by omega) (by omega) (R.next h e dr e0 e1 d0 d1 (by omega) hm)
    refine ⟨r, ?_, implStarts_1 h e dr e0 e1 d0 d1 i (by omega) out st now M (by omega) R r (fun m' hm' => by rw [hm'.one hm]; exact r2), r3, r4⟩
    refine Ev.step (h := fun k => spec_l18Starts.l1 k l e dr (l.length : Int) out (i : Int) (rd l (i : Int)) now ((0 : Nat) : Int)) (fun k => ?_) (specStarts_1 h e dr e0 e1 d0 d1 i (by omega) out now M (by omega) R.lo R.n0 R.n1 R.done r (fun m' hm' => by rw [hm'.one hm]; exact r1) i 0 now rfl (by omega) ⟨Int.le_refl _, fun q hq => by omega, .inl rfl⟩)
    simp only [spec_l18Starts.l0]
    rw [if_pos (by omega), if_pos (by omega)]; rfl
theorem Starts_ : ∃ r : List Int, Ev (fun k => spec_l18Starts.f k l e dr) r ∧ Ev (fun k => impl_startsOfPasting.f k l e dr) r ∧ r.length = l.length ∧ ∀ x : Int, 0 ≤ x → x < l.length → 0 ≤ rd r x ∧ rd r x ≤ 100000 ∧ rd r x ≤ rd r (rd l ((l.length - 1 : Nat) : Int)) := by
  have hn := (okO_iff l).1 h
  obtain ⟨r, r1, r2, r3, r4⟩ := starts_0 h e dr e0 e1 d0 d1 l.length 0 (List.replicate l.length 0) (List.replicate l.length (-1)) 0 0 rfl (by omega) (by omega) ⟨by simp, by simp, by omega, by omega, fun q hq => by omega, fun h => by omega, fun x x0 x1 => by
    rw [if_neg (by omega)]
    unfold rd
    rw [List.getD_eq_getElem?_getD, List.getElem?_replicate, if_pos (by omega)]; rfl⟩
  refine ⟨r, Ev.eq (fun k => ?_) r1, Ev.eq (fun k => ?_) r2, r3, r4⟩
  · unfold spec_l18Starts.f
    rw [if_pos (by omega), if_pos (by rw [Int.toNat_natCast]; omega), Int.toNat_natCast]; rfl
  · unfold impl_startsOfPasting.f slices_Repeat_int64_int64.f
    rw [if_pos ⟨rfl, by omega, by omega⟩, Int.toNat_natCast]; rfl
end

theorem foldl_max : ∀ (xs : List Int) (a : Int), (a ≤ xs.foldl max a ∧ ∀ x ∈ xs, x ≤ xs.foldl max a) ∧ (xs.foldl max a = a ∨ xs.foldl max a ∈ xs)
  | [], a => ⟨⟨Int.le_refl _, fun x hx => by cases hx⟩, .inl rfl⟩
  | y :: ys, a => by
    obtain ⟨⟨h1, h2⟩, h3⟩ := foldl_max ys (max a y)
    have hm : max a y = a ∧ y ≤ a ∨ max a y = y ∧ a ≤ y := by rw [Int.max_def]; split <;> omega
    rw [List.foldl_cons]
    refine ⟨⟨by omega, fun x hx => ?_⟩, ?_⟩
    · rcases List.mem_cons.1 hx with rfl | hx
      · omega
      · exact h2 x hx
    · rcases h3 with h3 | h3
      · rcases hm with ⟨g, _⟩ | ⟨g, _⟩
        · exact .inl (h3.trans g)
        · exact .inr (by rw [h3, g]; exact List.mem_cons_self)
      · exact .inr (List.mem_cons_of_mem _ h3)
theorem maxOf_is (r : List Int) (j : Nat) (hj : j < r.length) (h : ∀ x ∈ r, x ≤ rd r (j : Int)) : Lib.maxOf r = rd r (j : Int) := by
  have hm := rd_in' r j hj
  obtain ⟨⟨h1, h2⟩, h3⟩ := foldl_max r (r.headD 0)
  have ha := h2 _ hm
  have hb : r.foldl max (r.headD 0) ∈ r := by
    rcases h3 with h3 | h3
    · rw [h3]
      cases r with
      | nil => simp at hj
      | cons x r => exact List.mem_cons_self
    · exact h3
  have hc := h _ hb
  show r.foldl max (r.headD 0) = _
  omega

/-- When an order's last gore is dry, by both. -/
theorem End_ {l : List Int} (o : okO l = true) (a b : Int) (a0 : 1 ≤ a) (a1 : a ≤ 1000) (b0 : 0 ≤ b) (b1 : b ≤ 1000) : ∃ v : Int, 0 ≤ v ∧ v ≤ 200000 ∧ Ev (fun k => spec_l18End.f k l a b) v ∧ Ev (fun k => impl_endOfPasting.f k l a b) v := by
  have hn := (okO_iff l).1 o
  obtain ⟨r, r1, r2, r3, r4⟩ := Starts_ o a b a0 a1 b0 b1
  have hla := rd_ok o (l.length - 1) (by omega)
  have hlb := r4 _ hla.1 hla.2
  have hmax : Lib.maxOf r = rd r (rd l ((l.length - 1 : Nat) : Int)) := by
    have e : rd l ((l.length - 1 : Nat) : Int) = ((rd l ((l.length - 1 : Nat) : Int)).toNat : Int) := by omega
    rw [e]
    refine maxOf_is r _ (by omega) (fun x hx => ?_)
    obtain ⟨j, hj, he⟩ := List.getElem_of_mem hx
    have := r4 (j : Int) (by omega) (by omega)
    rw [rd_get r j hj, he] at this
    rw [← e]; exact this.2.2
  have hw : wrap64 (wrap64 (rd r (rd l ((l.length - 1 : Nat) : Int)) + a) + b) = rd r (rd l ((l.length - 1 : Nat) : Int)) + a + b := by
    rw [w64 (n := rd r (rd l ((l.length - 1 : Nat) : Int)) + a) (by omega) (by omega), w64 (by omega) (by omega)]
  refine ⟨rd r (rd l ((l.length - 1 : Nat) : Int)) + a + b, by omega, by omega, ?_, ?_⟩
  · refine Ev.bind r1 ⟨0, fun k _ => ?_⟩
    rw [w64 (n := (l.length : Int) - 1) (by omega) (by omega), if_pos (by omega), if_pos (by omega), show (l.length : Int) - 1 = ((l.length - 1 : Nat) : Int) by omega, if_pos hla.1, if_pos (by omega), hw]
  · refine Ev.bind r2 ⟨0, fun k _ => ?_⟩
    unfold slices_Max_int64_int64.f
    rw [if_pos (by omega), hmax]; simp only [Option.bind_some]; rw [hw]
open Classical in
noncomputable def endV (e d : Int) (l : List Int) : Int := if h : ∃ v : Int, 0 ≤ v ∧ v ≤ 200000 ∧ Ev (fun k => spec_l18End.f k l e d) v ∧ Ev (fun k => impl_endOfPasting.f k l e d) v then h.choose else 0
theorem endV_ {l : List Int} (o : okO l = true) (e d : Int) (e0 : 1 ≤ e) (e1 : e ≤ 1000) (d0 : 0 ≤ d) (d1 : d ≤ 1000) : 0 ≤ endV e d l ∧ endV e d l ≤ 200000 ∧ Ev (fun k => spec_l18End.f k l e d) (endV e d l) ∧ Ev (fun k => impl_endOfPasting.f k l e d) (endV e d l) := by
  have h := End_ o e d e0 e1 d0 d1
  unfold endV
  rw [dif_pos h]
  exact h.choose_spec

theorem idx_l (l : List Int) (x : Int) (hl : l.length ≤ 1048576) : ∀ (d : Nat) (i : Nat), l.length - i = d → i ≤ l.length → ∃ r : Int, (0 ≤ r ↔ x ∈ l.drop i) ∧ Ev (fun k => slices_Index_int64_int64.l0 k l x (l.length : Int) (i : Int)) r := by
  intro d
  induction d with
  | zero =>
    intro i hd hi
    refine ⟨-1, ?_, Ev.now (fun k => ?_)⟩
    · rw [List.drop_eq_nil_of_le (by omega)]; simp
    · simp only [slices_Index_int64_int64.l0]
      rw [if_neg (by omega)]
  | succ d ih =>
    intro i hd hi
    have hlt : i < l.length := by omega
    have hdr : l.drop i = rd l (i : Int) :: l.drop (i + 1) := by rw [rd_get l i hlt]; exact List.drop_eq_getElem_cons hlt
    by_cases c : x = rd l (i : Int)
    · refine ⟨(i : Int), ?_, Ev.now (fun k => ?_)⟩
      · rw [hdr]; constructor
        · intro _; rw [c]; exact List.mem_cons_self
        · intro _; omega
      · simp only [slices_Index_int64_int64.l0]
        rw [if_pos (by omega), if_pos (by omega), if_pos (by omega), if_pos c]
    · obtain ⟨r, h1, h2⟩ := ih (i + 1) (by omega) (by omega)
      refine ⟨r, ?_, Ev.step (h := fun k => slices_Index_int64_int64.l0 k l x (l.length : Int) ((i + 1 : Nat) : Int)) (fun k => ?_) h2⟩
      · rw [h1, hdr, List.mem_cons]
        constructor
        · intro h; exact .inr h
        · rintro (h | h)
          · exact absurd h c
          · exact h
      · simp only [slices_Index_int64_int64.l0]
        rw [if_pos (by omega), if_pos (by omega), if_pos (by omega), if_neg c, w64 (n := (i : Int) + 1) (by omega) (by omega)]; rfl
theorem Contains_ (l : List Int) (x : Int) (hl : l.length ≤ 1048576) : Ev (fun k => slices_Contains_int64_int64.f k l x) (decide (x ∈ l)) := by
  obtain ⟨r, h1, h2⟩ := idx_l l x hl l.length 0 rfl (by omega)
  refine Ev.eq (h := fun k => (slices_Index_int64_int64.l0 k l x (l.length : Int) ((0 : Nat) : Int)).bind fun t => some (decide (t ≥ 0))) (fun k => rfl) (Ev.bind h2 ⟨0, fun k _ => ?_⟩)
  have : decide (r ≥ 0) = decide (x ∈ l) := by
    rw [List.drop_zero] at h1
    exact decide_eq_decide.2 h1
  rw [this]

def workB (a b : Int) : Bool := decide (1 ≤ a ∧ a ≤ 1000) && decide (0 ≤ b ∧ b ≤ 1000)
theorem workB_iff (a b : Int) : workB a b = true ↔ (1 ≤ a ∧ a ≤ 1000) ∧ 0 ≤ b ∧ b ≤ 1000 := by
  unfold workB; rw [Bool.and_eq_true, decide_eq_true_iff, decide_eq_true_iff]
theorem Times_ (a b : Int) : spec_l18Times.f a b = some (workB a b) := by
  unfold spec_l18Times.f workB
  rw [In_, In_]; simp only [Option.bind_some]
  by_cases h : 1 ≤ a ∧ a ≤ 1000
  · rw [decide_eq_true h, if_pos rfl, Bool.true_and]
  · rw [decide_eq_false h, if_neg (by simp), Bool.false_and]
theorem isWork_ (a b : Int) : impl_isWork.f a b = some (workB a b) := by
  unfold impl_isWork.f workB
  rw [within_, within_]; simp only [Option.bind_some]
  by_cases h : 1 ≤ a ∧ a ≤ 1000
  · rw [decide_eq_true h, if_pos rfl, Bool.true_and]
  · rw [decide_eq_false h, if_neg (by simp), Bool.false_and]
def codeW (l : List Int) (a b : Int) : Int := if okO l = true then (if workB a b = true then 0 else 2) else 1
theorem codeW_0 {l : List Int} {a b : Int} (h : codeW l a b = 0) : okO l = true ∧ (1 ≤ a ∧ a ≤ 1000) ∧ 0 ≤ b ∧ b ≤ 1000 := by
  unfold codeW at h
  by_cases c : okO l = true
  · rw [if_pos c] at h
    by_cases d : workB a b = true
    · exact ⟨c, (workB_iff a b).1 d⟩
    · rw [if_neg d] at h; omega
  · rw [if_neg c] at h; omega

theorem own22_ (l : List Int) (hl : l.length ≤ 1048576) : spec_l00Own.f l = some l := by
  unfold spec_l00Own.f
  simp only [Option.bind_some]
  rw [if_pos (by simp; omega)]; simp

/-- The search over all orders. -/
noncomputable def seeQ (e d : Int) (o : List Int) (s : List Int × Int) : List Int × Int := if s.2 < 0 then (o, endV e d o) else if endV e d o < s.2 then (o, endV e d o) else s
def loopQ (f : Int → List Int × Int → List Int × Int) (o : List Int) : Nat → Int → List Int × Int → List Int × Int
  | 0, _, s => s
  | c + 1, g, s => loopQ f o c (g + 1) (if g ∈ o then s else f g s)
noncomputable def goQ (n : Nat) (e d : Int) : Nat → List Int → List Int × Int → List Int × Int
  | 0, o, s => seeQ e d o s
  | m + 1, o, s => loopQ (fun g s => goQ n e d m (o ++ [g]) s) o n 0 s
section
variable (n : Nat) (e d : Int) (n2 : 2 ≤ n) (n7 : n ≤ 7) (e0 : 1 ≤ e) (e1 : e ≤ 1000) (d0 : 0 ≤ d) (d1 : d ≤ 1000)
def inQ (n : Nat) (o : List Int) : Prop := o.Nodup ∧ ∀ x ∈ o, 0 ≤ x ∧ x < (n : Int)
theorem inQ.app {n : Nat} {o : List Int} (h : inQ n o) (g : Int) (g0 : 0 ≤ g) (g1 : g < n) (hg : g ∉ o) : inQ n (o ++ [g]) := by
  refine ⟨List.nodup_append.2 ⟨h.1, by simp, fun x hx y hy => ?_⟩, fun x hx => ?_⟩
  · rw [List.mem_singleton.1 hy]; rintro rfl; exact hg hx
  · rcases List.mem_append.1 hx with hx | hx
    · exact h.2 x hx
    · rw [List.mem_singleton.1 hx]; exact ⟨g0, g1⟩
include n2 n7 in
theorem inQ.ok {o : List Int} (h : inQ n o) (hl : o.length = n) : okO o = true := (okO_iff o).2 ⟨by omega, by omega, fun x hx => by have := h.2 x hx; omega, h.1⟩
include n2 n7 e0 e1 d0 d1 in
theorem specQ : ∀ (m : Nat) (o : List Int) (s : List Int × Int), o.length + m = n → inQ n o → Ev (fun k => qs_walk k (n : Int) e d o s.1 s.2) (goQ n e d m o s) := by
  intro m
  induction m with
  | zero =>
    intro o s hl ho
    have hk := inQ.ok n n2 n7 ho (by omega)
    obtain ⟨v0, v1, ⟨K, hK⟩, _⟩ := endV_ hk e d e0 e1 d0 d1
    refine ⟨K + 1, fun k hk => ?_⟩
    obtain ⟨k, rfl⟩ : ∃ m, k = m + 1 := ⟨k - 1, by omega⟩
    have hK := hK k (by omega)
    simp only at hK
    simp only [qs_walk, goQ, seeQ]
    rw [if_pos (by omega), hK]; simp only [Option.bind_some]
    have hown : spec_l00Own.f o = some o := own22_ o (by omega)
    by_cases c : s.2 < 0
    · rw [if_pos c, if_pos c, hown]; rfl
    · rw [if_neg c, if_neg c]
      by_cases c2 : endV e d o < s.2
      · rw [if_pos c2, if_pos c2, hown]; rfl
      · rw [if_neg c2, if_neg c2]
  | succ m ih =>
    intro o s hl ho
    have loop : ∀ (c : Nat) (g : Int) (s : List Int × Int), g + c = n → 0 ≤ g → Ev (fun k => qs_loop k (n : Int) e d o s.1 s.2 g) (loopQ (fun g s => goQ n e d m (o ++ [g]) s) o c g s) := by
      intro c
      induction c with
      | zero =>
        intro g s hg h0
        refine Ev.now (fun k => ?_)
        simp only [qs_loop, loopQ]
        rw [if_neg (by omega)]
      | succ c ihc =>
        intro g s hg h0
        have hr := ihc (g + 1) (if g ∈ o then s else goQ n e d m (o ++ [g]) s) (by omega) (by omega)
        obtain ⟨K1, h1⟩ := Has_ o g (by omega)
        obtain ⟨K2, h2⟩ := hr
        by_cases hm : g ∈ o
        · rw [if_pos hm] at h2
          refine ⟨K1 + K2 + 1, fun k hk => ?_⟩
          obtain ⟨k, rfl⟩ : ∃ m, k = m + 1 := ⟨k - 1, by omega⟩
          have h1 := h1 k (by omega)
          simp only at h1
          simp only [qs_loop, loopQ]
          rw [if_pos (by omega), h1, decide_eq_true hm, if_pos hm, w64 (n := g + 1) (by omega) (by omega)]; simp only [Option.bind_some, if_true]
          exact h2 k (by omega)
        · rw [if_neg hm] at h2
          obtain ⟨K3, h3⟩ := ih (o ++ [g]) s (by rw [List.length_append, List.length_singleton]; omega) (ho.app g h0 (by omega) hm)
          refine ⟨K1 + K2 + K3 + 1, fun k hk => ?_⟩
          obtain ⟨k, rfl⟩ : ∃ m, k = m + 1 := ⟨k - 1, by omega⟩
          have h1 := h1 k (by omega)
          have h3 := h3 k (by omega)
          simp only at h1 h3
          simp only [qs_loop, loopQ]
          rw [if_pos (by omega), h1, decide_eq_false hm, if_neg hm, w64 (n := g + 1) (by omega) (by omega)]; simp only [Option.bind_some, Bool.false_eq_true, if_false]
          rw [if_pos (by omega), h3]; simp only [Option.bind_some]
          exact h2 k (by omega)
    refine Ev.step (h := fun k => qs_loop k (n : Int) e d o s.1 s.2 0) (fun k => ?_) (loop n 0 s (by omega) (by omega))
    simp only [qs_walk]
    rw [if_neg (by omega)]
include n2 n7 e0 e1 d0 d1 in
theorem implQ : ∀ (m : Nat) (o : List Int) (s : List Int × Int), o.length + m = n → inQ n o → Ev (fun k => iq_put k (n : Int) e d o s.1 s.2) (goQ n e d m o s) := by
  intro m
  induction m with
  | zero =>
    intro o s hl ho
    have hk := inQ.ok n n2 n7 ho (by omega)
    obtain ⟨v0, v1, _, ⟨K, hK⟩⟩ := endV_ hk e d e0 e1 d0 d1
    have loop : ∀ (c : Nat) (g : Int) (s : List Int × Int), g + c = n → 0 ≤ g → Ev (fun k => iq_loop k (n : Int) e d o s.1 s.2 g) s := by
      intro c
      induction c with
      | zero =>
        intro g s hg h0
        refine Ev.now (fun k => ?_)
        simp only [iq_loop]
        rw [if_neg (by omega)]
      | succ c ihc =>
        intro g s hg h0
        obtain ⟨K1, h1⟩ := Contains_ o g (by omega)
        obtain ⟨K2, h2⟩ := ihc (g + 1) s (by omega) (by omega)
        have hm : g ∈ o := all_in hk g h0 (by omega)
        refine ⟨K1 + K2 + 1, fun k hk => ?_⟩
        obtain ⟨k, rfl⟩ : ∃ m, k = m + 1 := ⟨k - 1, by omega⟩
        have h1 := h1 k (by omega)
        simp only at h1
        simp only [iq_loop]
        rw [if_pos (by omega), h1, decide_eq_true hm, w64 (n := g + 1) (by omega) (by omega)]; simp only [Option.bind_some, if_true]
        exact h2 k (by omega)
    obtain ⟨L, hL⟩ := loop n 0 (seeQ e d o s) (by omega) (by omega)
    refine ⟨K + L + 1, fun k hk => ?_⟩
    obtain ⟨k, rfl⟩ : ∃ m, k = m + 1 := ⟨k - 1, by omega⟩
    have hK := hK k (by omega)
    have hL := hL k (by omega)
    simp only at hK hL
    have hown : slices_Clone_int64_int64.f o = some o := by unfold slices_Clone_int64_int64.f; rw [if_pos (by omega)]
    have hv : iq_visit k e d o s.1 s.2 = some (seeQ e d o s) := by
      unfold iq_visit seeQ
      rw [hK]; simp only [Option.bind_some]
      by_cases c : s.2 < 0
      · rw [if_pos c, if_pos c, hown]; rfl
      · rw [if_neg c, if_neg c]
        by_cases c2 : endV e d o < s.2
        · rw [if_pos c2, if_pos c2, hown]; rfl
        · rw [if_neg c2, if_neg c2]
    simp only [iq_put, goQ]
    rw [if_pos (by omega), hv]; simp only [Option.bind_some]
    exact hL
  | succ m ih =>
    intro o s hl ho
    have loop : ∀ (c : Nat) (g : Int) (s : List Int × Int), g + c = n → 0 ≤ g → Ev (fun k => iq_loop k (n : Int) e d o s.1 s.2 g) (loopQ (fun g s => goQ n e d m (o ++ [g]) s) o c g s) := by
      intro c
      induction c with
      | zero =>
        intro g s hg h0
        refine Ev.now (fun k => ?_)
        simp only [iq_loop, loopQ]
        rw [if_neg (by omega)]
      | succ c ihc =>
        intro g s hg h0
        have hr := ihc (g + 1) (if g ∈ o then s else goQ n e d m (o ++ [g]) s) (by omega) (by omega)
        obtain ⟨K1, h1⟩ := Contains_ o g (by omega)
        obtain ⟨K2, h2⟩ := hr
        by_cases hm : g ∈ o
        · rw [if_pos hm] at h2
          refine ⟨K1 + K2 + 1, fun k hk => ?_⟩
          obtain ⟨k, rfl⟩ : ∃ m, k = m + 1 := ⟨k - 1, by omega⟩
          have h1 := h1 k (by omega)
          simp only at h1
          simp only [iq_loop, loopQ]
          rw [if_pos (by omega), h1, decide_eq_true hm, if_pos hm, w64 (n := g + 1) (by omega) (by omega)]; simp only [Option.bind_some, if_true]
          exact h2 k (by omega)
        · rw [if_neg hm] at h2
          obtain ⟨K3, h3⟩ := ih (o ++ [g]) s (by rw [List.length_append, List.length_singleton]; omega) (ho.app g h0 (by omega) hm)
          refine ⟨K1 + K2 + K3 + 1, fun k hk => ?_⟩
          obtain ⟨k, rfl⟩ : ∃ m, k = m + 1 := ⟨k - 1, by omega⟩
          have h1 := h1 k (by omega)
          have h3 := h3 k (by omega)
          simp only at h1 h3
          simp only [iq_loop, loopQ]
          rw [if_pos (by omega), h1, decide_eq_false hm, if_neg hm, w64 (n := g + 1) (by omega) (by omega)]; simp only [Option.bind_some, Bool.false_eq_true, if_false]
          rw [if_pos (by omega), h3]; simp only [Option.bind_some]
          exact h2 k (by omega)
    refine Ev.step (h := fun k => iq_loop k (n : Int) e d o s.1 s.2 0) (fun k => ?_) (loop n 0 s (by omega) (by omega))
    simp only [iq_put]
    rw [if_neg (by omega)]
theorem loopQ_len (f : Int → List Int × Int → List Int × Int) (hf : ∀ g s, s.1.length ≤ 7 → (f g s).1.length ≤ 7) (o : List Int) : ∀ (c : Nat) (g : Int) (s : List Int × Int), s.1.length ≤ 7 → (loopQ f o c g s).1.length ≤ 7 := by
  intro c
  induction c with
  | zero => intro g s h; exact h
  | succ c ih =>
    intro g s h
    refine ih _ _ ?_
    split
    · exact h
    · exact hf g s h
theorem goQ_len (n : Nat) (e d : Int) : ∀ (m : Nat) (o : List Int) (s : List Int × Int), o.length + m ≤ 7 → s.1.length ≤ 7 → (goQ n e d m o s).1.length ≤ 7 := by
  intro m
  induction m with
  | zero =>
    intro o s ho h
    simp only [goQ, seeQ]
    split
    · show o.length ≤ 7; omega
    · split
      · show o.length ≤ 7; omega
      · exact h
  | succ m ih =>
    intro o s ho h
    exact loopQ_len _ (fun g s hs => ih (o ++ [g]) s (by rw [List.length_append, List.length_singleton]; omega) hs) o n 0 s h
end
noncomputable def quickR (n e d : Int) : List Int × Int × Int := if (2 ≤ n ∧ n ≤ 7) ∧ workB e d = true then ((goQ n.toNat e d n.toNat [] ([], -1)).1, (goQ n.toNat e d n.toNat [] ([], -1)).2, 0) else ([], 0, 2)
theorem Quick_ (n e d : Int) : ∃ r : List Int × Int × Int, r.1.length ≤ 7 ∧ Ev (fun k => spec_QuickOrder.f k n e d) r ∧ Ev (fun k => impl_QuickOrder.f k n e d) r := by
  refine ⟨quickR n e d, ?_, ?_⟩
  · unfold quickR
    by_cases c : (2 ≤ n ∧ n ≤ 7) ∧ workB e d = true
    · rw [if_pos c]; exact goQ_len n.toNat e d n.toNat [] ([], -1) (by simp; omega) (by simp)
    · rw [if_neg c]; simp
  · unfold quickR
    by_cases c : 2 ≤ n ∧ n ≤ 7
    · by_cases c2 : workB e d = true
      · rw [if_pos ⟨c, c2⟩]
        obtain ⟨⟨w1, w2⟩, w3, w4⟩ := (workB_iff e d).1 c2
        have hin : inQ n.toNat [] := ⟨List.nodup_nil, fun x hx => by simp at hx⟩
        have a1 := specQ n.toNat e d (by omega) (by omega) w1 w2 w3 w4 n.toNat [] ([], -1) (by simp) hin
        have a2 := implQ n.toNat e d (by omega) (by omega) w1 w2 w3 w4 n.toNat [] ([], -1) (by simp) hin
        rw [show ((n.toNat : Nat) : Int) = n by omega] at a1 a2
        constructor
        · refine Ev.eq (h := fun k => (qs_walk k n e d [] [] (-1)).bind fun r => some (r.1, r.2, 0)) (fun k => ?_) (Ev.bind a1 ⟨0, fun k _ => rfl⟩)
          unfold spec_QuickOrder.f
          rw [In_, Times_, decide_eq_true c, c2]; rfl
        · refine Ev.eq (h := fun k => (iq_put k n e d [] [] (-1)).bind fun r => some (r.1, r.2, 0)) (fun k => ?_) (Ev.bind a2 ⟨0, fun k _ => rfl⟩)
          unfold impl_QuickOrder.f
          rw [within_, isWork_, decide_eq_true c, c2]; rfl
      · rw [if_neg (fun h => c2 h.2)]
        have c2' : workB e d = false := by simpa using c2
        constructor
        · refine ⟨0, fun k _ => ?_⟩
          unfold spec_QuickOrder.f
          rw [In_, Times_, decide_eq_true c, c2']; rfl
        · refine ⟨0, fun k _ => ?_⟩
          unfold impl_QuickOrder.f
          rw [within_, isWork_, decide_eq_true c, c2']; rfl
    · rw [if_neg (fun h => c h.1)]
      constructor
      · refine ⟨0, fun k _ => ?_⟩
        unfold spec_QuickOrder.f
        rw [In_, decide_eq_false c]; rfl
      · refine ⟨0, fun k _ => ?_⟩
        unfold impl_QuickOrder.f
        rw [within_, decide_eq_false c]; rfl

theorem eqInts_l (l : List Int) (hl : l.length ≤ 1152921504606846976) : ∀ (d k : Nat) (i : Int), (l.length : Int) - i = d → 0 ≤ i → d < k → laws_eqInt64S.l0 k l l i = some true := by
  intro d
  induction d with
  | zero =>
    intro k i hd h0 hk
    obtain ⟨k, rfl⟩ : ∃ m, k = m + 1 := ⟨k - 1, by omega⟩
    simp only [laws_eqInt64S.l0]; rw [if_neg (by omega)]
  | succ d ih =>
    intro k i hd h0 hk
    obtain ⟨k, rfl⟩ : ∃ m, k = m + 1 := ⟨k - 1, by omega⟩
    simp only [laws_eqInt64S.l0]
    rw [if_pos (by omega), if_pos h0, if_pos (by omega), if_pos trivial, w64 (by omega) (by omega)]
    exact ih k (i + 1) (by omega) (by omega) (by omega)
theorem eqInts_ (l : List Int) (hl : l.length ≤ 1152921504606846976) (k : Nat) (hk : l.length < k) : laws_eqInt64S.f k l l = some true := by
  unfold laws_eqInt64S.f
  rw [if_pos rfl]; exact eqInts_l l hl l.length k 0 (by omega) (by omega) hk

theorem rd_set_same (l : List Int) (i : Int) (v : Int) (h0 : 0 ≤ i) (h : i < l.length) : rd (l.set i.toNat v) i = v := by
  unfold rd; simp [List.getD_eq_getElem?_getD, List.getElem?_set, show i.toNat < l.length by omega]
theorem rd_set_other (l : List Int) (i j : Int) (v : Int) (h0 : 0 ≤ i) (h1 : 0 ≤ j) (h : i ≠ j) : rd (l.set i.toNat v) j = rd l j := by
  unfold rd; simp [List.getD_eq_getElem?_getD, List.getElem?_set, show ¬ i.toNat = j.toNat by omega]
theorem mark_l : ∀ (d k : Nat) (l : List Int) (i m : Int), (l.length : Int) - i = d → 0 ≤ i → l.length ≤ 1152921504606846976 → 0 ≤ m → m + d ≤ 4611686018427387904 → d < k → ∃ l', laws_markInt64S.l0 k l m i = some (m + d, l') ∧ l'.length = l.length ∧ (∀ j, i ≤ j → j < l.length → rd l' j = m + (j - i)) ∧ ∀ j, 0 ≤ j → j < i → rd l' j = rd l j := by
  intro d
  induction d with
  | zero =>
    intro k l i m hd h0 hl hm hm2 hk
    obtain ⟨k, rfl⟩ : ∃ m, k = m + 1 := ⟨k - 1, by omega⟩
    refine ⟨l, ?_, rfl, fun j h1 h2 => by omega, fun j _ _ => rfl⟩
    simp only [laws_markInt64S.l0]; rw [if_neg (by omega)]; simp
  | succ d ih =>
    intro k l i m hd h0 hl hm hm2 hk
    obtain ⟨k, rfl⟩ : ∃ m, k = m + 1 := ⟨k - 1, by omega⟩
    obtain ⟨l', h1, h2, h3, h4⟩ := ih k (l.set i.toNat m) (i + 1) (m + 1) (by simp; omega) (by omega) (by simpa using hl) (by omega) (by omega) (by omega)
    refine ⟨l', ?_, by simpa using h2, fun j g1 g2 => ?_, fun j g1 g2 => ?_⟩
    · simp only [laws_markInt64S.l0]
      rw [if_pos (by omega), if_pos h0, w64 (n := m + 1) (by omega) (by omega), w64 (n := i + 1) (by omega) (by omega), h1]
      congr 2; omega
    · by_cases e : j = i
      · subst e; rw [h4 j h0 (by omega), rd_set_same _ _ _ h0 (by omega)]; omega
      · rw [h3 j (by omega) (by simpa using g2)]; omega
    · rw [h4 j g1 (by omega), rd_set_other _ _ _ _ h0 g1 (by omega)]

theorem held_l (l : List Int) (hl : l.length ≤ 1152921504606846976) : ∀ (d k : Nat) (i m : Int), (l.length : Int) - i = d → 0 ≤ i → 0 ≤ m → m + d ≤ 4611686018427387904 → d < k → (∀ j, i ≤ j → j < l.length → rd l j = m + (j - i)) → laws_heldInt64S.l0 k l m i = some (m + d) := by
  intro d
  induction d with
  | zero =>
    intro k i m hd h0 hm hm2 hk hr
    obtain ⟨k, rfl⟩ : ∃ m, k = m + 1 := ⟨k - 1, by omega⟩
    simp only [laws_heldInt64S.l0]; rw [if_neg (by omega)]; simp
  | succ d ih =>
    intro k i m hd h0 hm hm2 hk hr
    obtain ⟨k, rfl⟩ : ∃ m, k = m + 1 := ⟨k - 1, by omega⟩
    simp only [laws_heldInt64S.l0]
    rw [if_pos (by omega), if_pos h0, if_pos (by rw [hr i (by omega) (by omega)]; omega), w64 (n := m + 1) (by omega) (by omega), w64 (n := i + 1) (by omega) (by omega), ih k (i + 1) (m + 1) (by omega) (by omega) (by omega) (by omega) (by omega) (fun j g1 g2 => by rw [hr j (by omega) g2]; omega)]
    congr 1; omega
theorem mark_held (l : List Int) (hl : l.length ≤ 1152921504606846976) (k : Nat) (hk : l.length < k) (k' : Nat) (hk' : l.length < k') (k'' : Nat) (hk'' : l.length < k'') : ∃ l', laws_markInt64S.f k l 1 = some (1 + (l.length : Int), l') ∧ laws_heldInt64S.f k' l' 1 = some (1 + (l.length : Int)) ∧ laws_heldInt64S.f k'' l' 1 = some (1 + (l.length : Int)) := by
  obtain ⟨l', h1, h2, h3, h4⟩ := mark_l l.length k l 0 1 (by omega) (by omega) hl (by omega) (by omega) hk
  have hh : ∀ k, l.length < k → laws_heldInt64S.l0 k l' 1 0 = some (1 + (l.length : Int)) := fun k hk => held_l l' (by omega) l.length k 0 1 (by omega) (by omega) (by omega) (by omega) hk (fun j g1 g2 => h3 j g1 (by omega))
  refine ⟨l', ?_, ?_, ?_⟩
  · unfold laws_markInt64S.f; exact h1
  · unfold laws_heldInt64S.f; exact hh k' hk'
  · unfold laws_heldInt64S.f; exact hh k'' hk''

theorem FnExactQuickOrder : laws_FnExactQuickOrder.Pure := by
  intro n e d _ _ _
  obtain ⟨⟨l, t, c⟩, hl, ⟨K1, e1⟩, ⟨K2, e2⟩⟩ := Quick_ n e d
  dsimp only at hl e1 e2
  obtain ⟨l', g1, g2, g3⟩ := mark_held l (by omega) (K1 + K2 + 1003) (by omega) (K1 + K2 + 1003) (by omega) (K1 + K2 + 1002) (by omega)
  refine ⟨K1 + K2 + 1004, ?_⟩
  unfold laws_FnExactQuickOrder.f
  rw [e1 _ (by omega)]; simp only [Option.bind_some]
  rw [e2 _ (by omega)]; simp only [Option.bind_some]
  rw [eqInts_ l (by omega) _ (by omega)]; simp only [Option.bind_some, if_true, bne_self_eq_false]
  simp only [laws_FnExactQuickOrder.j0]
  rw [if_neg (by simp), g1]; simp only [Option.bind_some]
  rw [g2]; simp only [Option.bind_some]
  rw [if_neg (by omega), if_pos trivial, e2 _ (by omega)]; simp only [Option.bind_some]
  rw [eqInts_ l (by omega) _ (by omega)]; simp only [Option.bind_some, if_true, bne_self_eq_false, laws_FnExactQuickOrder.j1]
  rw [if_neg (by simp), g3]; simp only [Option.bind_some]
  rw [if_neg (by omega), if_pos trivial]

end Go.Proofs.Ytfpddpkloplpeaa.Pure
