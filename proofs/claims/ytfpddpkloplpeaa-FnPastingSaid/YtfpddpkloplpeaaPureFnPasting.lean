/- At all drawn orders and times: both answers are alike, shares add up, the quickest order ends when it is said and no other one ends sooner, and neighbours' starts lie apart. No condition. -/
import Derived.Test.YtfpddpkloplpeaaQFnPastingx9
import Derived.Test.YtfpddpkloplpeaaBase
namespace Go.Proofs.Ytfpddpkloplpeaa.Pure
open Go Go.RowKit Go.Proofs.Ytfpddpkloplpeaa.QFnPasting Go.Proofs.YtfpddpkloplpeaaW.PrintWords Go.Proofs.YtfpddpkloplpeaaW.PrintLast Go.Proofs.YtfpddpkloplpeaaW.PrintMore Go.Proofs.Ytfpddpkloplpeaa.Base
set_option linter.unusedVariables false
set_option linter.unusedSimpArgs false

/-- From some number of rounds on the answer is r. -/
def Ev {α : Type} (g : Nat → Option α) (r : α) : Prop := ∃ K, ∀ k, K ≤ k → g k = some r
theorem Ev.step {α : Type} {g h : Nat → Option α} {r : α} (e : ∀ k, g (k + 1) = h k) (hr : Ev h r) : Ev g r := by
  obtain ⟨K, hK⟩ := hr
  refine ⟨K + 1, fun k hk => ?_⟩
  obtain ⟨k, rfl⟩ : ∃ m, k = m + 1 := ⟨k - 1, by omega⟩
  rw [e]; exact hK k (by omega)
theorem Ev.now {α : Type} {g : Nat → Option α} {r : α} (e : ∀ k, g (k + 1) = some r) : Ev g r := Ev.step (h := fun _ => some r) e ⟨0, fun _ _ => rfl⟩
theorem Ev.bind {α β : Type} {c : Nat → Option α} {f : Nat → α → Option β} {t : α} {r : β} (hc : Ev c t) (hf : Ev (fun k => f k t) r) : Ev (fun k => (c k).bind (f k)) r := by
  obtain ⟨K, hK⟩ := hc
  obtain ⟨L, hL⟩ := hf
  exact ⟨K + L, fun k hk => by show (c k).bind (f k) = some r; rw [hK k (by omega)]; exact hL k (by omega)⟩
theorem Ev.eq {α : Type} {g h : Nat → Option α} {r : α} (e : ∀ k, g k = h k) (hr : Ev h r) : Ev g r := by
  obtain ⟨K, hK⟩ := hr
  exact ⟨K, fun k hk => by rw [e]; exact hK k hk⟩

theorem rd_get (l : List Int) (j : Nat) (h : j < l.length) : rd l (j : Int) = l[j] := by
  unfold rd; rw [Int.toNat_natCast, List.getD_eq_getElem?_getD, List.getElem?_eq_getElem h]; rfl
theorem has_l (l : List Int) (x : Int) (hl : l.length ≤ 1048576) : ∀ (d : Nat) (i : Nat), l.length - i = d → i ≤ l.length → ∀ r : Bool, (r = true ↔ x ∈ l.drop i) → Ev (fun k => spec_l00Has.l0 k l x (i : Int)) r := by
  intro d
  induction d with
  | zero =>
    intro i hd hi r hr
    have : r = false := by
      cases r with
      | false => rfl
      | true => have := hr.1 rfl; rw [List.drop_eq_nil_of_le (by omega)] at this; cases this
    subst this
    refine Ev.now (fun k => ?_)
    simp only [spec_l00Has.l0]
    rw [if_neg (by omega)]
  | succ d ih =>
    intro i hd hi r hr
    rw [List.drop_eq_getElem_cons (show i < l.length by omega), List.mem_cons] at hr
    have e : ∀ k, spec_l00Has.l0 (k + 1) l x (i : Int) = if rd l (i : Int) = x then some true else spec_l00Has.l0 k l x ((i + 1 : Nat) : Int) := by
      intro k
      simp only [spec_l00Has.l0]
      rw [if_pos (by omega), if_pos (by omega), w64 (n := (i : Int) + 1) (by omega) (by omega)]; rfl
    have hg := rd_get l i (by omega)
    by_cases q : rd l (i : Int) = x
    · have : r = true := hr.2 (.inl (by rw [← q, hg]))
      subst this
      exact Ev.now (fun k => by rw [e, if_pos q])
    · refine Ev.step (fun k => by rw [e, if_neg q]) (ih (i + 1) (by omega) (by omega) r (hr.trans ⟨fun h => h.elim (fun h => absurd (by rw [hg]; exact h.symm) q) id, .inr⟩))
theorem Has_ (l : List Int) (x : Int) (hl : l.length ≤ 1048576) : Ev (fun k => spec_l00Has.f k l x) (decide (x ∈ l)) :=
  has_l l x hl l.length 0 rfl (by omega) _ (by rw [List.drop_zero]; exact decide_eq_true_iff)

theorem In_ (a b c : Int) : spec_l00In.f a b c = some (decide (b ≤ a ∧ a ≤ c)) := by
  unfold spec_l00In.f
  by_cases h : a ≥ b
  · rw [if_pos h]; simp [show b ≤ a from h]
  · rw [if_neg h]; simp [show ¬ b ≤ a from h]

theorem within_ (a b c : Int) : impl_within.f a b c = some (decide (b ≤ a ∧ a ≤ c)) := by
  unfold impl_within.f
  by_cases h : a ≥ b
  · rw [if_pos h]; simp [show b ≤ a from h]
  · rw [if_neg h]; simp [show ¬ b ≤ a from h]

/-- A valid order: each gore once. -/
def okO (l : List Int) : Bool := decide (2 ≤ l.length ∧ l.length ≤ 12 ∧ (∀ x ∈ l, 0 ≤ x ∧ x < l.length) ∧ l.Nodup)
theorem okO_iff (l : List Int) : okO l = true ↔ (2 ≤ l.length ∧ l.length ≤ 12 ∧ (∀ x ∈ l, 0 ≤ x ∧ x < l.length) ∧ l.Nodup) := by
  unfold okO; exact decide_eq_true_iff
theorem nodup_rd (l : List Int) : l.Nodup ↔ ∀ j : Nat, j < l.length → rd l (j : Int) ∉ l.take j := by
  rw [List.nodup_iff_pairwise_ne, List.pairwise_iff_getElem]
  constructor
  · intro h j hj hm
    obtain ⟨i, hi, he⟩ := List.mem_take_iff_getElem.1 hm
    rw [rd_get l j hj] at he
    exact h i j (by omega) hj (by omega) he
  · intro h i j hi hj hij e
    refine h j hj (List.mem_take_iff_getElem.2 ⟨i, by omega, ?_⟩)
    rw [rd_get l j hj]; exact e
theorem specOrd_l (l : List Int) (hl : l.length ≤ 12) : ∀ (d : Nat) (i : Nat), l.length - i = d → i ≤ l.length → ∀ r : Bool, (r = true ↔ ∀ j : Nat, i ≤ j → j < l.length → 0 ≤ rd l (j : Int) ∧ rd l (j : Int) < l.length ∧ rd l (j : Int) ∉ l.take j) → Ev (fun k => spec_l18Ok.l0 k l (l.length : Int) (i : Int)) r := by
  intro d
  induction d with
  | zero =>
    intro i hd hi r hr
    have : r = true := hr.2 (fun j h1 h2 => by omega)
    subst this
    refine Ev.now (fun k => ?_)
    simp only [spec_l18Ok.l0]
    rw [if_neg (by omega)]
  | succ d ih =>
    intro i hd hi r hr
    have e : ∀ k, spec_l18Ok.l0 (k + 1) l (l.length : Int) (i : Int) = if 0 ≤ rd l (i : Int) ∧ rd l (i : Int) ≤ (l.length : Int) - 1 then (spec_l00Has.f k (l.take i) (rd l (i : Int))).bind fun t => if t = true then some false else spec_l18Ok.l0 k l (l.length : Int) ((i + 1 : Nat) : Int) else some false := by
      intro k
      simp only [spec_l18Ok.l0]
      rw [if_pos (by omega), if_pos (by omega), In_, w64 (n := (l.length : Int) - 1) (by omega) (by omega)]
      simp only [Option.bind_some, decide_eq_true_eq]
      by_cases q : 0 ≤ rd l (i : Int) ∧ rd l (i : Int) ≤ (l.length : Int) - 1
      · rw [if_pos q, if_pos q, if_pos (by omega), w64 (n := (i : Int) + 1) (by omega) (by omega), Int.toNat_natCast]; rfl
      · rw [if_neg q, if_neg q]
    by_cases q : 0 ≤ rd l (i : Int) ∧ rd l (i : Int) ≤ (l.length : Int) - 1
    · refine Ev.step (fun k => by rw [e, if_pos q]) (Ev.bind (Has_ (l.take i) (rd l (i : Int)) (by rw [List.length_take]; omega)) ?_)
      by_cases z : rd l (i : Int) ∈ l.take i
      · have : r = false := by
          cases r with
          | false => rfl
          | true => exact absurd z (hr.1 rfl i (Nat.le_refl _) (by omega)).2.2
        subst this
        exact ⟨0, fun k _ => by rw [decide_eq_true z]; rfl⟩
      · refine Ev.eq (fun k => by rw [decide_eq_false z]; exact if_neg (by simp)) (ih (i + 1) (by omega) (by omega) r (hr.trans ⟨fun h j h1 h2 => h j (by omega) h2, fun h j h1 h2 => ?_⟩))
        by_cases g : j = i
        · subst g; exact ⟨q.1, by omega, z⟩
        · exact h j (by omega) h2
    · have : r = false := by
        cases r with
        | false => rfl
        | true => have := hr.1 rfl i (Nat.le_refl _) (by omega); exact absurd ⟨this.1, by omega⟩ q
      subst this
      exact Ev.now (fun k => by rw [e, if_neg q])
theorem okO_rd (l : List Int) (h1 : 2 ≤ l.length) (h2 : l.length ≤ 12) : okO l = true ↔ ∀ j : Nat, 0 ≤ j → j < l.length → 0 ≤ rd l (j : Int) ∧ rd l (j : Int) < l.length ∧ rd l (j : Int) ∉ l.take j := by
  rw [okO_iff, nodup_rd]
  constructor
  · rintro ⟨_, _, h3, h4⟩ j _ hj
    have := h3 (rd l (j : Int)) (by rw [rd_get l j hj]; exact List.getElem_mem _)
    exact ⟨this.1, this.2, h4 j hj⟩
  · intro h
    refine ⟨h1, h2, fun x hx => ?_, fun j hj => (h j (by omega) hj).2.2⟩
    obtain ⟨j, hj, he⟩ := List.getElem_of_mem hx
    have := h j (by omega) hj
    rw [rd_get l j hj, he] at this
    exact ⟨this.1, this.2.1⟩
theorem SpecOrd_ (l : List Int) : Ev (fun k => spec_l18Ok.f k l) (okO l) := by
  by_cases c : 2 ≤ l.length ∧ l.length ≤ 12
  · refine Ev.eq (h := fun k => spec_l18Ok.l0 k l (l.length : Int) ((0 : Nat) : Int)) (fun k => ?_) (specOrd_l l c.2 l.length 0 rfl (by omega) _ (okO_rd l c.1 c.2))
    unfold spec_l18Ok.f
    rw [In_]; simp only [Option.bind_some, decide_eq_true_eq]
    rw [if_pos (by omega)]; rfl
  · have : okO l = false := by
      cases h : okO l with
      | false => rfl
      | true => exact absurd ⟨((okO_iff l).1 h).1, ((okO_iff l).1 h).2.1⟩ c
    rw [this]
    refine ⟨0, fun k _ => ?_⟩
    show spec_l18Ok.f k l = some false
    unfold spec_l18Ok.f
    rw [In_]; simp only [Option.bind_some, decide_eq_true_eq]
    rw [if_neg (by omega)]

theorem arr_rd (S : List Int) (j : Nat) : S.toArray[j]! = rd S (j : Int) := by
  unfold rd; simp [List.getElem!_eq_getElem?_getD, List.getD_eq_getElem?_getD]
theorem keeps_rd (S : List Int) (j : Nat) : Lib.keeps S.toArray j = true ↔ (j = 0 ∨ rd S (j : Int) ≠ rd S ((j - 1 : Nat) : Int)) := by
  unfold Lib.keeps
  rw [arr_rd, arr_rd]; exact decide_eq_true_iff
/-- The sorted list. -/
def srt (l : List Int) : List Int := l.mergeSort fun x y => decide (x ≤ y)
theorem srt_perm (l : List Int) : (srt l).Perm l := List.mergeSort_perm _ _
theorem srt_len (l : List Int) : (srt l).length = l.length := (srt_perm l).length_eq
theorem srt_le (l : List Int) (i j : Nat) (hij : i < j) (hj : j < l.length) : rd (srt l) (i : Int) ≤ rd (srt l) (j : Int) := by
  have h := List.pairwise_mergeSort (le := fun (x y : Int) => decide (x ≤ y)) (fun a b c h1 h2 => by simp at *; omega) (fun a b => by simp; omega) l
  have h := List.pairwise_iff_getElem.1 h
  have hl := srt_len l
  rw [rd_get _ i (by omega), rd_get _ j (by omega)]
  have := h i j (by show i < (srt l).length; omega) (by show j < (srt l).length; omega) hij
  exact of_decide_eq_true this
theorem asc_full (l : List Int) (h : (ascL l).length = l.length) : ascL l = srt l ∧ ∀ j, j < l.length → Lib.keeps (srt l).toArray j = true := by
  have hk : ∀ j, j < l.length → Lib.keeps (srt l).toArray j = true := by
    have h2 : ((List.range l.length).filter (Lib.keeps (srt l).toArray)).length = (List.range l.length).length := by
      rw [List.length_range]
      refine Eq.trans ?_ h
      show _ = (((List.range l.length).filter (Lib.keeps (srt l).toArray)).map _).length
      rw [List.length_map]
    intro j hj
    exact List.length_filter_eq_length_iff.1 h2 j (List.mem_range.2 hj)
  refine ⟨?_, hk⟩
  have h3 := Lib.compactUpTo_all (srt l).toArray l.length hk
  have h4 := Lib.range_map_get (srt l).toArray
  rw [show (srt l).toArray.size = l.length from by simpa using srt_len l] at h4
  show Lib.compactUpTo (srt l).toArray l.length = _
  rw [h3, h4]
theorem asc_nodup (l : List Int) (h : l.Nodup) : (ascL l).length = l.length := by
  have hn : (srt l).Nodup := (srt_perm l).nodup_iff.2 h
  have hk : ∀ j, j < l.length → Lib.keeps (srt l).toArray j = true := by
    intro j hj
    rw [keeps_rd]
    by_cases c : j = 0
    · exact .inl c
    · refine .inr (fun e => ?_)
      have hl := srt_len l
      rw [rd_get _ j (by omega), rd_get _ (j - 1) (by omega)] at e
      exact List.pairwise_iff_getElem.1 (List.nodup_iff_pairwise_ne.1 hn) (j - 1) j (by omega) (by omega) (by omega) e.symm
  show (Lib.compactUpTo (srt l).toArray l.length).length = l.length
  rw [Lib.compactUpTo_all _ _ hk, List.length_map, List.length_range]
theorem rising_l (C : List Int) (m : Int) (m0 : 0 ≤ m) (m1 : m ≤ 12) (hC : C.length ≤ 12) : ∀ (d : Nat) (i : Nat), C.length - i = d → i ≤ C.length → ∀ r : Bool, (r = true ↔ ∀ j : Nat, i ≤ j → j < C.length → 0 ≤ rd C (j : Int) ∧ rd C (j : Int) < m ∧ (0 < j → rd C ((j - 1 : Nat) : Int) < rd C (j : Int))) → Ev (fun k => impl_rising.l0 k C m C (C.length : Int) (i : Int)) r := by
  intro d
  induction d with
  | zero =>
    intro i hd hi r hr
    have : r = true := hr.2 (fun j h1 h2 => by omega)
    subst this
    refine Ev.now (fun k => ?_)
    simp only [impl_rising.l0]
    rw [if_neg (by omega)]
  | succ d ih =>
    intro i hd hi r hr
    have e : ∀ k, impl_rising.l0 (k + 1) C m C (C.length : Int) (i : Int) = if 0 ≤ rd C (i : Int) ∧ rd C (i : Int) ≤ m - 1 then (if 0 < i ∧ rd C ((i - 1 : Nat) : Int) ≥ rd C (i : Int) then some false else impl_rising.l0 k C m C (C.length : Int) ((i + 1 : Nat) : Int)) else some false := by
      intro k
      simp only [impl_rising.l0]
      rw [if_pos (by omega), if_pos (by omega), if_pos (by omega), within_, w64 (n := m - 1) (by omega) (by omega), w64 (n := (i : Int) + 1) (by omega) (by omega), w64 (n := (i : Int) - 1) (by omega) (by omega)]
      simp only [Option.bind_some, decide_eq_true_eq]
      by_cases q : 0 ≤ rd C (i : Int) ∧ rd C (i : Int) ≤ m - 1
      · rw [if_pos q, if_pos q]
        by_cases z : 0 < i
        · rw [if_pos (by omega), if_pos (by omega), if_pos (by omega), show ((i : Int) - 1) = ((i - 1 : Nat) : Int) by omega]
          by_cases g : rd C ((i - 1 : Nat) : Int) ≥ rd C (i : Int)
          · rw [if_pos g, if_pos ⟨z, g⟩]
          · rw [if_neg g, if_neg (fun h => g h.2)]; rfl
        · rw [if_neg (by omega), if_neg (fun h => z h.1)]; rfl
      · rw [if_neg q, if_neg q]
    have no : (¬ (0 ≤ rd C (i : Int) ∧ rd C (i : Int) < m ∧ (0 < i → rd C ((i - 1 : Nat) : Int) < rd C (i : Int)))) → r = false := by
      intro h
      cases r with
      | false => rfl
      | true => exact absurd (hr.1 rfl i (Nat.le_refl _) (by omega)) h
    by_cases q : 0 ≤ rd C (i : Int) ∧ rd C (i : Int) ≤ m - 1
    · by_cases z : 0 < i ∧ rd C ((i - 1 : Nat) : Int) ≥ rd C (i : Int)
      · have := no (fun h => by have := h.2.2 z.1; omega)
        subst this
        exact Ev.now (fun k => by rw [e, if_pos q, if_pos z])
      · refine Ev.step (fun k => by rw [e, if_pos q, if_neg z]) (ih (i + 1) (by omega) (by omega) r (hr.trans ⟨fun h j h1 h2 => h j (by omega) h2, fun h j h1 h2 => ?_⟩))
        by_cases g : j = i
        · subst g; exact ⟨q.1, by omega, fun h0 => by omega⟩
        · exact h j (by omega) h2
    · have := no (fun h => q ⟨h.1, by omega⟩)
      subst this
      exact Ev.now (fun k => by rw [e, if_neg q])
theorem lt_all (C : List Int) (h : ∀ j : Nat, j < C.length → 0 < j → rd C ((j - 1 : Nat) : Int) < rd C (j : Int)) : ∀ (d i : Nat), i + d + 1 < C.length → rd C (i : Int) < rd C ((i + d + 1 : Nat) : Int) := by
  intro d
  induction d with
  | zero => intro i hi; have := h (i + 1) (by omega) (by omega); simpa using this
  | succ d ih =>
    intro i hi
    have h1 := ih i (by omega)
    have h2 := h (i + (d + 1) + 1) (by omega) (by omega)
    rw [show i + (d + 1) + 1 - 1 = i + d + 1 by omega] at h2
    omega
theorem ImplOrd_ (l : List Int) (hl : l.length ≤ 1048576) : Ev (fun k => impl_ValidOrder.f k l) (okO l) := by
  have ha : impl_ascending.f l = some (ascL l) := by unfold impl_ascending.f; rw [if_pos (by omega)]
  have no : okO l = false → (∀ k, impl_ValidOrder.f k l = some false) → Ev (fun k => impl_ValidOrder.f k l) (okO l) := fun h1 h2 => by rw [h1]; exact ⟨0, fun k _ => h2 k⟩
  have nk : (¬ (2 ≤ l.length ∧ l.length ≤ 12 ∧ l.Nodup)) → okO l = false := by
    intro h
    cases g : okO l with
    | false => rfl
    | true => have := (okO_iff l).1 g; exact absurd ⟨this.1, this.2.1, this.2.2.2⟩ h
  by_cases c1 : (l.length : Int) ≥ 2
  · by_cases c2 : (l.length : Int) ≤ 12
    · by_cases c3 : (ascL l).length = l.length
      · obtain ⟨hC, hk⟩ := asc_full l c3
        refine Ev.eq (h := fun k => impl_rising.l0 k (srt l) (l.length : Int) (srt l) ((srt l).length : Int) ((0 : Nat) : Int)) (fun k => ?_) (rising_l (srt l) (l.length : Int) (by omega) (by omega) (by rw [srt_len]; omega) (srt l).length 0 rfl (by omega) _ ?_)
        · unfold impl_ValidOrder.f
          rw [ha]; simp only [Option.bind_some]
          rw [if_pos c1, if_pos c2, if_pos (by omega), hC]
          show (impl_rising.f k (srt l) (l.length : Int)).bind (fun t => some t) = impl_rising.f k (srt l) (l.length : Int)
          cases impl_rising.f k (srt l) (l.length : Int) <;> rfl
        · have hlen := srt_len l
          rw [okO_iff]
          constructor
          · rintro ⟨_, _, h3, h4⟩ j _ hj
            have hm := h3 (rd (srt l) (j : Int)) ((srt_perm l).mem_iff.1 (by rw [rd_get _ j hj]; exact List.getElem_mem _))
            refine ⟨hm.1, hm.2, fun h0 => ?_⟩
            have h5 := srt_le l (j - 1) j (by omega) (by omega)
            have h6 := (keeps_rd (srt l) j).1 (hk j (by omega))
            omega
          · intro h
            refine ⟨by omega, by omega, fun x hx => ?_, ?_⟩
            · obtain ⟨j, hj, he⟩ := List.getElem_of_mem ((srt_perm l).mem_iff.2 hx)
              have := h j (by omega) hj
              rw [rd_get _ j hj, he] at this
              exact ⟨this.1, this.2.1⟩
            · refine (srt_perm l).nodup_iff.1 (List.nodup_iff_pairwise_ne.2 (List.pairwise_iff_getElem.2 (fun i j hi hj hij e => ?_)))
              have := lt_all (srt l) (fun j h1 h2 => (h j (by omega) h1).2.2 h2) (j - i - 1) i (by omega)
              rw [show i + (j - i - 1) + 1 = j by omega, rd_get _ i hi, rd_get _ j hj] at this
              omega
      · refine no (nk (fun h => c3 (asc_nodup l h.2.2))) (fun k => ?_)
        unfold impl_ValidOrder.f
        rw [ha]; simp only [Option.bind_some]
        rw [if_pos c1, if_pos c2, if_neg (by omega)]
    · refine no (nk (fun h => by omega)) (fun k => ?_)
      unfold impl_ValidOrder.f
      rw [ha]; simp only [Option.bind_some]
      rw [if_pos c1, if_neg c2]
  · refine no (nk (fun h => by omega)) (fun k => ?_)
    unfold impl_ValidOrder.f
    rw [ha]; simp only [Option.bind_some]
    rw [if_neg c1]

/-- From some number of rounds on there is an answer, one that is as told. -/
def EvP {α : Type} (g : Nat → Option α) (Q : α → Prop) : Prop := ∃ r, Q r ∧ Ev g r
theorem EvP.step {α : Type} {g h : Nat → Option α} {Q : α → Prop} (e : ∀ k, g (k + 1) = h k) (hr : EvP h Q) : EvP g Q := by
  obtain ⟨r, hq, hr⟩ := hr
  exact ⟨r, hq, Ev.step e hr⟩
theorem EvP.eq {α : Type} {g h : Nat → Option α} {Q : α → Prop} (e : ∀ k, g k = h k) (hr : EvP h Q) : EvP g Q := by
  obtain ⟨r, hq, hr⟩ := hr
  exact ⟨r, hq, Ev.eq e hr⟩
theorem EvP.bind {α β : Type} {c : Nat → Option α} {f : Nat → α → Option β} {P : α → Prop} {Q : β → Prop} (hc : EvP c P) (hf : ∀ t, P t → EvP (fun k => f k t) Q) : EvP (fun k => (c k).bind (f k)) Q := by
  obtain ⟨t, hp, hc⟩ := hc
  obtain ⟨r, hq, hr⟩ := hf t hp
  exact ⟨r, hq, Ev.bind hc hr⟩

theorem rd_set_s (l : List Int) (i : Int) (v : Int) (h0 : 0 ≤ i) (h : i < l.length) : rd (l.set i.toNat v) i = v := by
  unfold rd; simp [List.getD_eq_getElem?_getD, List.getElem?_set, show i.toNat < l.length by omega]
theorem rd_set_o (l : List Int) (i j : Int) (v : Int) (h0 : 0 ≤ i) (h1 : 0 ≤ j) (h : i ≠ j) : rd (l.set i.toNat v) j = rd l j := by
  unfold rd; simp [List.getD_eq_getElem?_getD, List.getElem?_set, show ¬ i.toNat = j.toNat by omega]
theorem up_all (C : List Int) (h : ∀ j : Nat, j < C.length → 0 < j → rd C ((j - 1 : Nat) : Int) < rd C (j : Int)) : ∀ (d i : Nat), i + d < C.length → rd C (i : Int) + d ≤ rd C ((i + d : Nat) : Int) := by
  intro d
  induction d with
  | zero => intro i hi; simp
  | succ d ih =>
    intro i hi
    have h1 := ih i (by omega)
    have h2 := h (i + (d + 1)) (by omega) (by omega)
    rw [show i + (d + 1) - 1 = i + d by omega] at h2
    omega
theorem rd_in' (l : List Int) (j : Nat) (h : j < l.length) : rd l (j : Int) ∈ l := by rw [rd_get l j h]; exact List.getElem_mem _
theorem all_in {l : List Int} (h : okO l = true) (x : Int) (x0 : 0 ≤ x) (x1 : x < l.length) : x ∈ l := by
  obtain ⟨h1, h2, h3, h4⟩ := (okO_iff l).1 h
  have hl := srt_len l
  have hn : (srt l).Nodup := (srt_perm l).nodup_iff.2 h4
  have hup := up_all (srt l) (fun j hj h0 => by
    have a := srt_le l (j - 1) j (by omega) (by omega)
    have b := List.pairwise_iff_getElem.1 (List.nodup_iff_pairwise_ne.1 hn) (j - 1) j (by omega) hj (by omega)
    rw [rd_get _ j hj, rd_get _ (j - 1) (by omega)] at a ⊢
    omega)
  have hr : ∀ j : Nat, j < l.length → 0 ≤ rd (srt l) (j : Int) ∧ rd (srt l) (j : Int) < l.length := fun j hj => h3 _ ((srt_perm l).mem_iff.1 (rd_in' _ j (by omega)))
  have a := hup x.toNat 0 (by omega)
  have b := hup (l.length - 1 - x.toNat) x.toNat (by omega)
  rw [show 0 + x.toNat = x.toNat by omega] at a
  rw [show x.toNat + (l.length - 1 - x.toNat) = l.length - 1 by omega] at b
  have c := hr 0 (by omega)
  have d := hr (l.length - 1) (by omega)
  have e : rd (srt l) ((x.toNat : Nat) : Int) = x := by omega
  have := rd_in' (srt l) x.toNat (by omega)
  rw [e] at this
  exact (srt_perm l).mem_iff.1 this
theorem rd_inj {l : List Int} (h : l.Nodup) (i j : Nat) (hi : i < l.length) (hj : j < l.length) (e : rd l (i : Int) = rd l (j : Int)) : i = j := by
  have hp := List.pairwise_iff_getElem.1 (List.nodup_iff_pairwise_ne.1 h)
  rw [rd_get l i hi, rd_get l j hj] at e
  rcases Nat.lt_trichotomy i j with g | g | g
  · exact absurd e (hp i j hi hj g)
  · exact g
  · exact absurd e.symm (hp j i hj hi g)
/-- Where a gore stands in an order. -/
def pos (l : List Int) (x : Int) : Nat := l.idxOf x
theorem pos_says {l : List Int} (h : okO l = true) (x : Int) (x0 : 0 ≤ x) (x1 : x < l.length) : pos l x < l.length ∧ rd l (pos l x : Int) = x := by
  have hm := all_in h x x0 x1
  have hlt : pos l x < l.length := List.idxOf_lt_length_iff.2 hm
  exact ⟨hlt, by rw [rd_get l _ hlt]; exact List.getElem_idxOf hlt⟩
theorem rd_ok {l : List Int} (h : okO l = true) (j : Nat) (hj : j < l.length) : 0 ≤ rd l (j : Int) ∧ rd l (j : Int) < l.length := ((okO_iff l).1 h).2.2.1 _ (rd_in' l j hj)
theorem pos_rd {l : List Int} (h : okO l = true) (i : Nat) (hi : i < l.length) : pos l (rd l (i : Int)) = i := by
  have hr := rd_ok h i hi
  obtain ⟨h1, h2⟩ := pos_says h _ hr.1 hr.2
  exact rd_inj ((okO_iff l).1 h).2.2.2 _ _ h1 hi h2

theorem tmod_in (k n : Int) (h0 : 0 ≤ k) (h1 : 0 < n) : 0 ≤ Int.tmod k n ∧ Int.tmod k n < n := ⟨Int.tmod_nonneg _ h0, Int.tmod_lt_of_pos _ h1⟩

theorem Max_ (a b : Int) : spec_l00Max.f a b = some (mx a b) := by
  unfold spec_l00Max.f mx
  by_cases h : a > b
  · rw [if_pos h, if_neg (by omega)]
  · rw [if_neg h]; by_cases h2 : a < b
    · rw [if_pos h2]
    · rw [if_neg h2, show a = b by omega]

theorem gd_ext {α : Type} (z : α) (a l : List α) (h : a.length = l.length) (h2 : ∀ j : Int, 0 ≤ j → j < l.length → a.getD j.toNat z = l.getD j.toNat z) : a = l := by
  apply List.ext_getElem h
  intro n h1 h3
  have := h2 n (by omega) (by omega)
  rw [List.getD_eq_getElem?_getD, List.getD_eq_getElem?_getD, Int.toNat_natCast, List.getElem?_eq_getElem h1, List.getElem?_eq_getElem h3] at this
  exact this
theorem gd_same {α : Type} (z : α) (l : List α) (i : Int) (v : α) (h0 : 0 ≤ i) (h : i < l.length) : (l.set i.toNat v).getD i.toNat z = v := by
  simp [List.getD_eq_getElem?_getD, List.getElem?_set, show i.toNat < l.length by omega]
theorem gd_other {α : Type} (z : α) (l : List α) (i j : Int) (v : α) (h0 : 0 ≤ i) (h1 : 0 ≤ j) (h : i ≠ j) : (l.set i.toNat v).getD j.toNat z = l.getD j.toNat z := by
  simp [List.getD_eq_getElem?_getD, List.getElem?_set, show ¬ i.toNat = j.toNat by omega]
theorem gd_in {α : Type} (z : α) (l : List α) (i : Int) (h0 : 0 ≤ i) (h : i < l.length) : l.getD i.toNat z ∈ l := by
  rw [List.getD_eq_getElem?_getD, List.getElem?_eq_getElem (by omega)]
  exact List.getElem_mem _
theorem gd_map {α β : Type} (z : α) (y : β) (f : α → β) (l : List α) (i : Int) (h0 : 0 ≤ i) (h : i < l.length) : (l.map f).getD i.toNat y = f (l.getD i.toNat z) := by
  rw [List.getD_eq_getElem?_getD, List.getD_eq_getElem?_getD, List.getElem?_map, List.getElem?_eq_getElem (by omega)]
  rfl
theorem size64 {n : Nat} (h : n ≤ maxLen) : (n : Int) ≤ 9223372036854775807 := by
  have e : maxLen = 9223372036854775807 := by decide
  omega

theorem ext_rd (a b : List Int) (h : a.length = b.length) (h2 : ∀ x : Int, 0 ≤ x → x < b.length → rd a x = rd b x) : a = b := gd_ext (0 : Int) a b h (fun j h0 h1 => h2 j h0 h1)
def nb (n k y : Int) : Prop := y = Int.tmod (k + 1) n ∨ y = Int.tmod (k + n - 1) n
/-- When a gore is pasted: not before the hands are free, not before its neighbours among the first j are dry, and no later. -/
def IsM (l out : List Int) (e dr now k : Int) (j : Nat) (m : Int) : Prop := now ≤ m ∧ (∀ q : Nat, q < j → nb l.length k (rd l (q : Int)) → rd out (rd l (q : Int)) + e + dr ≤ m) ∧ (m = now ∨ ∃ q : Nat, q < j ∧ nb l.length k (rd l (q : Int)) ∧ m = rd out (rd l (q : Int)) + e + dr)
theorem IsM.one {l out : List Int} {e dr now k : Int} {j : Nat} {m m' : Int} (h : IsM l out e dr now k j m) (h' : IsM l out e dr now k j m') : m = m' := by
  obtain ⟨a1, a2, a3⟩ := h
  obtain ⟨b1, b2, b3⟩ := h'
  have x : m ≤ m' := by
    rcases a3 with a3 | ⟨q, q1, q2, q3⟩
    · omega
    · have := b2 q q1 q2; omega
  have y : m' ≤ m := by
    rcases b3 with b3 | ⟨q, q1, q2, q3⟩
    · omega
    · have := a2 q q1 q2; omega
  omega
structure RelS (l : List Int) (e dr M : Int) (i : Nat) (out st : List Int) (now : Int) : Prop where
  lo : out.length = l.length
  ls : st.length = l.length
  n0 : 0 ≤ now
  n1 : now ≤ M
  done : ∀ q : Nat, q < i → 0 ≤ rd out (rd l (q : Int)) ∧ rd out (rd l (q : Int)) + e ≤ now
  last : 0 < i → now = rd out (rd l ((i - 1 : Nat) : Int)) + e
  same : ∀ x : Int, 0 ≤ x → x < l.length → rd st x = if pos l x < i then rd out x else -1
  apart : ∀ q p : Nat, q < i → p < q → nb l.length (rd l (q : Int)) (rd l (p : Int)) → rd out (rd l (p : Int)) + e + dr ≤ rd out (rd l (q : Int))
section
variable {l : List Int} (h : okO l = true) (e dr : Int) (e0 : 1 ≤ e) (e1 : e ≤ 1000) (d0 : 0 ≤ dr) (d1 : dr ≤ 1000)
include h e0 e1 d0 d1
theorem specStarts_1 (i : Nat) (hi : i < l.length) (out : List Int) (now M : Int) (hM : M ≤ 100000) (ho : out.length = l.length) (n0 : 0 ≤ now) (n1 : now ≤ M) (hd : ∀ q : Nat, q < i → 0 ≤ rd out (rd l (q : Int)) ∧ rd out (rd l (q : Int)) + e ≤ now) (r : List Int) (hn : ∀ m, IsM l out e dr now (rd l (i : Int)) i m → Ev (fun k => spec_l18Starts.l0 k l e dr (l.length : Int) (out.set (rd l (i : Int)).toNat m) (m + e) ((i + 1 : Nat) : Int)) r) : ∀ (d j : Nat) (m : Int), i - j = d → j ≤ i → IsM l out e dr now (rd l (i : Int)) j m → Ev (fun k => spec_l18Starts.l1 k l e dr (l.length : Int) out (i : Int) (rd l (i : Int)) m (j : Int)) r := by
  have ok := (okO_iff l).1 h
  have hk := rd_ok h i hi
  intro d
  induction d with
  | zero =>
    intro j m hd' hj hm
    obtain rfl : j = i := by omega
    have hmb : m ≤ M + 2000 := by
      rcases hm.2.2 with g | ⟨q, q1, q2, q3⟩
      · omega
      · have := hd q q1; omega
    have hm0 := hm.1
    refine Ev.step (fun k => ?_) (hn m hm)
    simp only [spec_l18Starts.l1]
    rw [if_neg (by omega), if_pos hk.1, if_pos (by omega), w64 (n := m + e) (by omega) (by omega), w64 (n := (j : Int) + 1) (by omega) (by omega)]; rfl
  | succ d ih =>
    intro j m hd' hj hm
    have hy := rd_ok h j (by omega)
    have hc := hd j (by omega)
    have es : ∀ k, spec_l18Starts.l1 (k + 1) l e dr (l.length : Int) out (i : Int) (rd l (i : Int)) m (j : Int) = if rd l (j : Int) = Int.tmod (rd l (i : Int) + 1) l.length ∨ rd l (j : Int) = Int.tmod (rd l (i : Int) + l.length - 1) l.length then spec_l18Starts.l1 k l e dr (l.length : Int) out (i : Int) (rd l (i : Int)) (mx m (rd out (rd l (j : Int)) + e + dr)) ((j + 1 : Nat) : Int) else spec_l18Starts.l1 k l e dr (l.length : Int) out (i : Int) (rd l (i : Int)) m ((j + 1 : Nat) : Int) := by
      intro k
      simp only [spec_l18Starts.l1]
      rw [if_pos (by omega), if_pos (by omega), if_pos (by omega), if_neg (by omega), w64 (n := rd l (i : Int) + 1) (by omega) (by omega), w64 (n := rd l (i : Int) + (l.length : Int)) (by omega) (by omega), w64 (n := rd l (i : Int) + (l.length : Int) - 1) (by omega) (by omega), w64 (n := rd out (rd l (j : Int)) + e) (by omega) (by omega), w64 (n := rd out (rd l (j : Int)) + e + dr) (by omega) (by omega), w64 (n := (j : Int) + 1) (by omega) (by omega)]
      by_cases a : rd l (j : Int) = Int.tmod (rd l (i : Int) + 1) l.length
      · rw [if_pos a, if_pos hy.1, if_pos (by omega), Max_, if_pos (.inl a)]; rfl
      · rw [if_neg a]
        by_cases b : rd l (j : Int) = Int.tmod (rd l (i : Int) + l.length - 1) l.length
        · rw [if_pos b, if_pos hy.1, if_pos (by omega), Max_, if_pos (.inr b)]; rfl
        · rw [if_neg b, if_neg (fun g => g.elim a b)]; rfl
    have hmx : mx m (rd out (rd l (j : Int)) + e + dr) = m ∧ rd out (rd l (j : Int)) + e + dr ≤ m ∨ mx m (rd out (rd l (j : Int)) + e + dr) = rd out (rd l (j : Int)) + e + dr ∧ m ≤ rd out (rd l (j : Int)) + e + dr := by unfold mx; split <;> omega
    by_cases a : rd l (j : Int) = Int.tmod (rd l (i : Int) + 1) l.length ∨ rd l (j : Int) = Int.tmod (rd l (i : Int) + l.length - 1) l.length
    · refine Ev.step (fun k => by rw [es, if_pos a]) (ih (j + 1) _ (by omega) (by omega) ?_)
      generalize mx m (rd out (rd l (j : Int)) + e + dr) = m' at hmx
      refine ⟨by have := hm.1; omega, fun q q1 q2 => ?_, ?_⟩
      · by_cases g : q = j
        · subst g; omega
        · have := hm.2.1 q (by omega) q2; omega
      · rcases hmx with ⟨g, _⟩ | ⟨g, _⟩
        · rcases hm.2.2 with z | ⟨q, q1, q2, q3⟩
          · exact .inl (by omega)
          · exact .inr ⟨q, by omega, q2, by omega⟩
        · exact .inr ⟨j, by omega, a, g⟩
    · refine Ev.step (fun k => by rw [es, if_neg a]) (ih (j + 1) m (by omega) (by omega) ⟨hm.1, fun q q1 q2 => ?_, ?_⟩)
      · by_cases g : q = j
        · subst g; exact absurd q2 a
        · exact hm.2.1 q (by omega) q2
      · rcases hm.2.2 with z | ⟨q, q1, q2, q3⟩
        · exact .inl z
        · exact .inr ⟨q, by omega, q2, q3⟩
/-- What one neighbour does to the time. -/
def step2 (st : List Int) (e dr y m : Int) : Int := if rd st y ≥ 0 then mx m (rd st y + e + dr) else m
theorem implStarts_1 (i : Nat) (hi : i < l.length) (out st : List Int) (now M : Int) (hM : M ≤ 100000) (R : RelS l e dr M i out st now) (r : List Int) (hn : ∀ m, IsM l out e dr now (rd l (i : Int)) i m → Ev (fun k => impl_startsOfPasting.l0 k e dr (l.length : Int) (st.set (rd l (i : Int)).toNat m) (m + e) l (l.length : Int) ((i + 1 : Nat) : Int)) r) : Ev (fun k => impl_startsOfPasting.l0 k e dr (l.length : Int) st now l (l.length : Int) (i : Int)) r := by
  have ok := (okO_iff l).1 h
  have hk := rd_ok h i hi
  have ta := tmod_in (rd l (i : Int) + 1) (l.length : Int) (by omega) (by omega)
  have tb := tmod_in (rd l (i : Int) + l.length - 1) (l.length : Int) (by omega) (by omega)
  have n0 := R.n0
  have n1 := R.n1
  have ls := R.ls
  refine Ev.step (h := fun k => impl_startsOfPasting.l1 k e dr (l.length : Int) st (rd l (i : Int)) now l (l.length : Int) (i : Int) [Int.tmod (rd l (i : Int) + 1) l.length, Int.tmod (rd l (i : Int) + l.length - 1) l.length] 2 0) (fun k => ?_) ?_
  · simp only [impl_startsOfPasting.l0]
    rw [if_pos (by omega), if_pos (by omega), if_pos (by omega), if_neg (by omega), w64 (n := rd l (i : Int) + 1) (by omega) (by omega), w64 (n := rd l (i : Int) + (l.length : Int)) (by omega) (by omega), w64 (n := rd l (i : Int) + (l.length : Int) - 1) (by omega) (by omega)]; rfl
  have st2 : ∀ (x : Int) (m : Int), 0 ≤ x → x < l.length → now ≤ m → m ≤ M + 2000 → (∀ Z : List Int, (Z = out) → True) → ∃ m', m' = step2 st e dr x m ∧ (now ≤ m' ∧ m' ≤ M + 2000) ∧ (m ≤ m') ∧ (pos l x < i → rd out x + e + dr ≤ m') ∧ (m' = m ∨ pos l x < i ∧ m' = rd out x + e + dr) ∧ (rd st x ≥ 0 → wrap64 (wrap64 (rd st x + e) + dr) = rd st x + e + dr) := by
    intro x m x0 x1 g0 g1 _
    have hs := R.same x x0 x1
    refine ⟨_, rfl, ?_⟩
    by_cases c : pos l x < i
    · rw [if_pos c] at hs
      obtain ⟨p1, p2⟩ := pos_says h x x0 x1
      have hd := R.done (pos l x) c
      rw [p2] at hd
      have hmx : mx m (rd st x + e + dr) = m ∧ rd st x + e + dr ≤ m ∨ mx m (rd st x + e + dr) = rd st x + e + dr ∧ m ≤ rd st x + e + dr := by unfold mx; split <;> omega
      unfold step2
      rw [if_pos (by omega)]
      generalize mx m (rd st x + e + dr) = m' at hmx
      refine ⟨by omega, by omega, fun _ => by omega, ?_, fun _ => ?_⟩
      · rcases hmx with ⟨a, _⟩ | ⟨a, _⟩
        · exact .inl a
        · exact .inr ⟨c, by omega⟩
      · rw [w64 (n := rd st x + e) (by omega) (by omega), w64 (n := rd st x + e + dr) (by omega) (by omega)]
    · rw [if_neg c] at hs
      unfold step2
      rw [if_neg (by omega)]
      exact ⟨⟨g0, g1⟩, Int.le_refl _, fun g => absurd g c, .inl rfl, fun g => by omega⟩
  obtain ⟨m1, q1, q2, q3, q4, q5, q6⟩ := st2 _ now ta.1 ta.2 (Int.le_refl _) (by omega) (fun _ _ => trivial)
  obtain ⟨m2, s1, s2, s3, s4, s5, s6⟩ := st2 _ m1 tb.1 tb.2 q2.1 q2.2 (fun _ _ => trivial)
  have fin : IsM l out e dr now (rd l (i : Int)) i m2 := by
    refine ⟨s2.1, fun q z1 z2 => ?_, ?_⟩
    · have hp := pos_rd h q (by omega)
      rcases z2 with z2 | z2
      · rw [← z2] at q4; have := q4 (by omega); omega
      · rw [← z2] at s4; have := s4 (by omega); omega
    · rcases s5 with s5 | ⟨c, s5⟩
      · rcases q5 with q5 | ⟨c, q5⟩
        · exact .inl (by omega)
        · obtain ⟨p1, p2⟩ := pos_says h _ ta.1 ta.2
          exact .inr ⟨_, c, by rw [p2]; exact .inl rfl, by rw [p2]; omega⟩
      · obtain ⟨p1, p2⟩ := pos_says h _ tb.1 tb.2
        exact .inr ⟨_, c, by rw [p2]; exact .inr rfl, by rw [p2]; omega⟩
  generalize Int.tmod (rd l (i : Int) + 1) l.length = a at *
  generalize Int.tmod (rd l (i : Int) + l.length - 1) l.length = b at *
  have ra : rd [a, b] 0 = a := rfl
  have rb : rd [a, b] 1 = b := rfl
  have lab : (([a, b] : List Int).length : Int) = 2 := rfl
  refine Ev.step (h := fun k => impl_startsOfPasting.l1 k e dr (l.length : Int) st (rd l (i : Int)) m1 l (l.length : Int) (i : Int) [a, b] 2 1) (fun k => ?_) ?_
  · simp only [impl_startsOfPasting.l1]
    rw [if_pos (by omega), if_pos (by omega), if_pos (by omega), ra, if_pos ta.1, if_pos (by omega), w64 (n := (0 : Int) + 1) (by omega) (by omega), q1]
    unfold step2
    by_cases c : rd st a ≥ 0
    · rw [if_pos c, if_pos c, q6 c]; rfl
    · rw [if_neg c, if_neg c]; rfl
  refine Ev.step (h := fun k => impl_startsOfPasting.l1 k e dr (l.length : Int) st (rd l (i : Int)) m2 l (l.length : Int) (i : Int) [a, b] 2 2) (fun k => ?_) ?_
  · simp only [impl_startsOfPasting.l1]
    rw [if_pos (by omega), if_pos (by omega), if_pos (by omega), rb, if_pos tb.1, if_pos (by omega), w64 (n := (1 : Int) + 1) (by omega) (by omega), s1]
    unfold step2
    by_cases c : rd st b ≥ 0
    · rw [if_pos c, if_pos c, s6 c]; rfl
    · rw [if_neg c, if_neg c]; rfl
  refine Ev.step (fun k => ?_) (hn m2 fin)
  simp only [impl_startsOfPasting.l1]
  rw [if_neg (by omega), if_pos hk.1, if_pos (by omega), w64 (n := m2 + e) (by omega) (by omega), w64 (n := (i : Int) + 1) (by omega) (by omega)]; rfl
theorem RelS.next {i : Nat} (hi : i < l.length) {out st : List Int} {now M : Int} (R : RelS l e dr M i out st now) {m : Int} (hm : IsM l out e dr now (rd l (i : Int)) i m) : RelS l e dr (M + 3000) (i + 1) (out.set (rd l (i : Int)).toNat m) (st.set (rd l (i : Int)).toNat m) (m + e) := by
  have hn := (okO_iff l).1 h
  have hk := rd_ok h i hi
  have hm0 := hm.1
  have n0 := R.n0
  have n1 := R.n1
  have lo := R.lo
  have ls := R.ls
  have hmb : m ≤ M + 2000 := by
    rcases hm.2.2 with g | ⟨q, q1, q2, q3⟩
    · omega
    · have := R.done q q1; omega
  refine ⟨by simpa using R.lo, by simpa using R.ls, by omega, by omega, fun q hq => ?_, fun _ => ?_, fun x x0 x1 => ?_, fun q p hq hp hnb => ?_⟩
  · by_cases g : q = i
    · subst g; rw [rd_set_s _ _ _ hk.1 (by omega)]; omega
    · have hy := rd_ok h q (by omega)
      rw [rd_set_o _ _ _ _ hk.1 hy.1 (fun z => g (rd_inj hn.2.2.2 _ _ (by omega) (by omega) z.symm))]
      have := R.done q (by omega); omega
  · rw [show i + 1 - 1 = i by omega, rd_set_s _ _ _ hk.1 (by omega)]
  · obtain ⟨p1, p2⟩ := pos_says h x x0 x1
    have hs := R.same x x0 x1
    by_cases g : x = rd l (i : Int)
    · have hp := pos_rd h i hi
      rw [← g] at hp
      rw [if_pos (by omega), g, rd_set_s _ _ _ hk.1 (by omega), rd_set_s _ _ _ hk.1 (by omega)]
    · have hp : pos l x ≠ i := fun z => g (by rw [← z, p2])
      rw [rd_set_o _ _ _ _ hk.1 x0 (fun z => g z.symm), rd_set_o _ _ _ _ hk.1 x0 (fun z => g z.symm), hs]
      by_cases z : pos l x < i
      · rw [if_pos z, if_pos (by omega)]
      · rw [if_neg z, if_neg (by omega)]
  · have hz := rd_ok h p (by omega)
    by_cases g : q = i
    · subst g
      rw [rd_set_s _ _ _ hk.1 (by omega), rd_set_o _ _ _ _ hk.1 hz.1 (fun z => absurd (rd_inj hn.2.2.2 _ _ (by omega) (by omega) z) (by omega))]
      exact hm.2.1 p hp hnb
    · have hy := rd_ok h q (by omega)
      rw [rd_set_o _ _ _ _ hk.1 hz.1 (fun z => absurd (rd_inj hn.2.2.2 _ _ (by omega) (by omega) z) (by omega)), rd_set_o _ _ _ _ hk.1 hy.1 (fun z => absurd (rd_inj hn.2.2.2 _ _ (by omega) (by omega) z) (by omega))]
      exact R.apart q p (by omega) hp hnb
theorem starts_0 : ∀ (d i : Nat) (out st : List Int) (now M : Int), l.length - i = d → i ≤ l.length → M = 3000 * i → RelS l e dr M i out st now → ∃ r : List Int, Ev (fun k => spec_l18Starts.l0 k l e dr (l.length : Int) out now (i : Int)) r ∧ Ev (fun k => impl_startsOfPasting.l0 k e dr (l.length : Int) st now l (l.length : Int) (i : Int)) r ∧ r.length = l.length ∧ ((∀ x : Int, 0 ≤ x → x < l.length → 0 ≤ rd r x ∧ rd r x ≤ 100000 ∧ rd r x ≤ rd r (rd l ((l.length - 1 : Nat) : Int))) ∧ ∀ q p : Nat, q < l.length → p < q → nb l.length (rd l (q : Int)) (rd l (p : Int)) → rd r (rd l (p : Int)) + e + dr ≤ rd r (rd l (q : Int))) := by
  have hn := (okO_iff l).1 h
  intro d
  induction d with
  | zero =>
    intro i out st now M hd hi hM R
    obtain rfl : i = l.length := by omega
    have hos : st = out := ext_rd _ _ (by rw [R.ls, R.lo]) (fun x x0 x1 => by
      rw [R.lo] at x1
      have := R.same x x0 x1
      rw [if_pos (pos_says h x x0 x1).1] at this
      exact this)
    subst hos
    refine ⟨st, Ev.now (fun k => ?_), Ev.now (fun k => ?_), R.lo, fun x x0 x1 => ?_, R.apart⟩
    · simp only [spec_l18Starts.l0]
      rw [if_neg (by omega)]
    · simp only [impl_startsOfPasting.l0]
      rw [if_neg (by omega)]
    · obtain ⟨p1, p2⟩ := pos_says h x x0 x1
      have a := R.done (pos l x) p1
      rw [p2] at a
      have b := R.last (by omega)
      have c := R.n1
      omega
  | succ d ih =>
    intro i out st now M hd hi hM R
    obtain ⟨m, hm⟩ : ∃ m, IsM l out e dr now (rd l (i : Int)) i m := by
      have : ∀ j : Nat, j ≤ i → ∃ m, IsM l out e dr now (rd l (i : Int)) j m := by
        intro j
        induction j with
        | zero => intro _; exact ⟨now, Int.le_refl _, fun q hq => by omega, .inl rfl⟩
        | succ j ihj =>
          intro hj
          obtain ⟨m, a1, a2, a3⟩ := ihj (by omega)
          by_cases c : nb l.length (rd l (i : Int)) (rd l (j : Int)) ∧ m ≤ rd out (rd l (j : Int)) + e + dr
          · refine ⟨rd out (rd l (j : Int)) + e + dr, by omega, fun q q1 q2 => ?_, .inr ⟨j, by omega, c.1, rfl⟩⟩
            by_cases g : q = j
            · subst g; omega
            · have := a2 q (by omega) q2; omega
          · refine ⟨m, a1, fun q q1 q2 => ?_, ?_⟩
            · by_cases g : q = j
              · subst g
                by_cases z : m ≤ rd out (rd l (q : Int)) + e + dr
                · exact absurd ⟨q2, z⟩ c
                · omega
              · exact a2 q (by omega) q2
            · rcases a3 with a3 | ⟨q, q1, q2, q3⟩
              · exact .inl a3
              · exact .inr ⟨q, by omega, q2, q3⟩
      exact this i (Nat.le_refl _)
    obtain ⟨r, r1, r2, r3, r4⟩ := ih (i + 1) _ _ _ (M + 3000) (by omega) (by omega) (by omega) (R.next h e dr e0 e1 d0 d1 (by omega) hm)
    refine ⟨r, ?_, implStarts_1 h e dr e0 e1 d0 d1 i (by omega) out st now M (by omega) R r (fun m' hm' => by rw [hm'.one hm]; exact r2), r3, r4⟩
    refine Ev.step (h := fun k => spec_l18Starts.l1 k l e dr (l.length : Int) out (i : Int) (rd l (i : Int)) now ((0 : Nat) : Int)) (fun k => ?_) (specStarts_1 h e dr e0 e1 d0 d1 i (by omega) out now M (by omega) R.lo R.n0 R.n1 R.done r (fun m' hm' => by rw [hm'.one hm]; exact r1) i 0 now rfl (by omega) ⟨Int.le_refl _, fun q hq => by omega, .inl rfl⟩)
    simp only [spec_l18Starts.l0]
    rw [if_pos (by omega), if_pos (by omega)]; rfl
theorem Starts2_ : ∃ r : List Int, Ev (fun k => spec_l18Starts.f k l e dr) r ∧ Ev (fun k => impl_startsOfPasting.f k l e dr) r ∧ r.length = l.length ∧ (∀ x : Int, 0 ≤ x → x < l.length → 0 ≤ rd r x ∧ rd r x ≤ 100000 ∧ rd r x ≤ rd r (rd l ((l.length - 1 : Nat) : Int))) ∧ ∀ q p : Nat, q < l.length → p < q → nb l.length (rd l (q : Int)) (rd l (p : Int)) → rd r (rd l (p : Int)) + e + dr ≤ rd r (rd l (q : Int)) := by
  have hn := (okO_iff l).1 h
  obtain ⟨r, r1, r2, r3, r4⟩ := starts_0 h e dr e0 e1 d0 d1 l.length 0 (List.replicate l.length 0) (List.replicate l.length (-1)) 0 0 rfl (by omega) (by omega) ⟨by simp, by simp, by omega, by omega, fun q hq => by omega, fun h => by omega, fun x x0 x1 => by
    rw [if_neg (by omega)]
    unfold rd
    rw [List.getD_eq_getElem?_getD, List.getElem?_replicate, if_pos (by omega)]; rfl, fun q p hq => by omega⟩
  refine ⟨r, Ev.eq (fun k => ?_) r1, Ev.eq (fun k => ?_) r2, r3, r4⟩
  · unfold spec_l18Starts.f
    rw [if_pos (by omega), if_pos (by rw [Int.toNat_natCast]; omega), Int.toNat_natCast]; rfl
  · unfold impl_startsOfPasting.f slices_Repeat_int64_int64.f
    rw [if_pos ⟨rfl, by omega, by omega⟩, Int.toNat_natCast]; rfl
theorem Starts_ : ∃ r : List Int, Ev (fun k => spec_l18Starts.f k l e dr) r ∧ Ev (fun k => impl_startsOfPasting.f k l e dr) r ∧ r.length = l.length ∧ ∀ x : Int, 0 ≤ x → x < l.length → 0 ≤ rd r x ∧ rd r x ≤ 100000 ∧ rd r x ≤ rd r (rd l ((l.length - 1 : Nat) : Int)) := by
  obtain ⟨r, r1, r2, r3, r4, _⟩ := Starts2_ h e dr e0 e1 d0 d1
  exact ⟨r, r1, r2, r3, r4⟩
end

theorem foldl_max : ∀ (xs : List Int) (a : Int), (a ≤ xs.foldl max a ∧ ∀ x ∈ xs, x ≤ xs.foldl max a) ∧ (xs.foldl max a = a ∨ xs.foldl max a ∈ xs)
  | [], a => ⟨⟨Int.le_refl _, fun x hx => by cases hx⟩, .inl rfl⟩
  | y :: ys, a => by
    obtain ⟨⟨h1, h2⟩, h3⟩ := foldl_max ys (max a y)
    have hm : max a y = a ∧ y ≤ a ∨ max a y = y ∧ a ≤ y := by rw [Int.max_def]; split <;> omega
    rw [List.foldl_cons]
    refine ⟨⟨by omega, fun x hx => ?_⟩, ?_⟩
    · rcases List.mem_cons.1 hx with rfl | hx
      · omega
      · exact h2 x hx
    · rcases h3 with h3 | h3
      · rcases hm with ⟨g, _⟩ | ⟨g, _⟩
        · exact .inl (h3.trans g)
        · exact .inr (by rw [h3, g]; exact List.mem_cons_self)
      · exact .inr (List.mem_cons_of_mem _ h3)
theorem maxOf_is (r : List Int) (j : Nat) (hj : j < r.length) (h : ∀ x ∈ r, x ≤ rd r (j : Int)) : Lib.maxOf r = rd r (j : Int) := by
  have hm := rd_in' r j hj
  obtain ⟨⟨h1, h2⟩, h3⟩ := foldl_max r (r.headD 0)
  have ha := h2 _ hm
  have hb : r.foldl max (r.headD 0) ∈ r := by
    rcases h3 with h3 | h3
    · rw [h3]
      cases r with
      | nil => simp at hj
      | cons x r => exact List.mem_cons_self
    · exact h3
  have hc := h _ hb
  show r.foldl max (r.headD 0) = _
  omega

/-- When an order's last gore is dry, by both. -/
theorem End_ {l : List Int} (o : okO l = true) (a b : Int) (a0 : 1 ≤ a) (a1 : a ≤ 1000) (b0 : 0 ≤ b) (b1 : b ≤ 1000) : ∃ v : Int, 0 ≤ v ∧ v ≤ 200000 ∧ Ev (fun k => spec_l18End.f k l a b) v ∧ Ev (fun k => impl_endOfPasting.f k l a b) v := by
  have hn := (okO_iff l).1 o
  obtain ⟨r, r1, r2, r3, r4⟩ := Starts_ o a b a0 a1 b0 b1
  have hla := rd_ok o (l.length - 1) (by omega)
  have hlb := r4 _ hla.1 hla.2
  have hmax : Lib.maxOf r = rd r (rd l ((l.length - 1 : Nat) : Int)) := by
    have e : rd l ((l.length - 1 : Nat) : Int) = ((rd l ((l.length - 1 : Nat) : Int)).toNat : Int) := by omega
    rw [e]
    refine maxOf_is r _ (by omega) (fun x hx => ?_)
    obtain ⟨j, hj, he⟩ := List.getElem_of_mem hx
    have := r4 (j : Int) (by omega) (by omega)
    rw [rd_get r j hj, he] at this
    rw [← e]; exact this.2.2
  have hw : wrap64 (wrap64 (rd r (rd l ((l.length - 1 : Nat) : Int)) + a) + b) = rd r (rd l ((l.length - 1 : Nat) : Int)) + a + b := by
    rw [w64 (n := rd r (rd l ((l.length - 1 : Nat) : Int)) + a) (by omega) (by omega), w64 (by omega) (by omega)]
  refine ⟨rd r (rd l ((l.length - 1 : Nat) : Int)) + a + b, by omega, by omega, ?_, ?_⟩
  · refine Ev.bind r1 ⟨0, fun k _ => ?_⟩
    rw [w64 (n := (l.length : Int) - 1) (by omega) (by omega), if_pos (by omega), if_pos (by omega), show (l.length : Int) - 1 = ((l.length - 1 : Nat) : Int) by omega, if_pos hla.1, if_pos (by omega), hw]
  · refine Ev.bind r2 ⟨0, fun k _ => ?_⟩
    unfold slices_Max_int64_int64.f
    rw [if_pos (by omega), hmax]; simp only [Option.bind_some]; rw [hw]
open Classical in
noncomputable def endV (e d : Int) (l : List Int) : Int := if h : ∃ v : Int, 0 ≤ v ∧ v ≤ 200000 ∧ Ev (fun k => spec_l18End.f k l e d) v ∧ Ev (fun k => impl_endOfPasting.f k l e d) v then h.choose else 0
theorem endV_ {l : List Int} (o : okO l = true) (e d : Int) (e0 : 1 ≤ e) (e1 : e ≤ 1000) (d0 : 0 ≤ d) (d1 : d ≤ 1000) : 0 ≤ endV e d l ∧ endV e d l ≤ 200000 ∧ Ev (fun k => spec_l18End.f k l e d) (endV e d l) ∧ Ev (fun k => impl_endOfPasting.f k l e d) (endV e d l) := by
  have h := End_ o e d e0 e1 d0 d1
  unfold endV
  rw [dif_pos h]
  exact h.choose_spec

theorem idx_l (l : List Int) (x : Int) (hl : l.length ≤ 1048576) : ∀ (d : Nat) (i : Nat), l.length - i = d → i ≤ l.length → ∃ r : Int, (0 ≤ r ↔ x ∈ l.drop i) ∧ Ev (fun k => slices_Index_int64_int64.l0 k l x (l.length : Int) (i : Int)) r := by
  intro d
  induction d with
  | zero =>
    intro i hd hi
    refine ⟨-1, ?_, Ev.now (fun k => ?_)⟩
    · rw [List.drop_eq_nil_of_le (by omega)]; simp
    · simp only [slices_Index_int64_int64.l0]
      rw [if_neg (by omega)]
  | succ d ih =>
    intro i hd hi
    have hlt : i < l.length := by omega
    have hdr : l.drop i = rd l (i : Int) :: l.drop (i + 1) := by rw [rd_get l i hlt]; exact List.drop_eq_getElem_cons hlt
    by_cases c : x = rd l (i : Int)
    · refine ⟨(i : Int), ?_, Ev.now (fun k => ?_)⟩
      · rw [hdr]; constructor
        · intro _; rw [c]; exact List.mem_cons_self
        · intro _; omega
      · simp only [slices_Index_int64_int64.l0]
        rw [if_pos (by omega), if_pos (by omega), if_pos (by omega), if_pos c]
    · obtain ⟨r, h1, h2⟩ := ih (i + 1) (by omega) (by omega)
      refine ⟨r, ?_, Ev.step (h := fun k => slices_Index_int64_int64.l0 k l x (l.length : Int) ((i + 1 : Nat) : Int)) (fun k => ?_) h2⟩
      · rw [h1, hdr, List.mem_cons]
        constructor
        · intro h; exact .inr h
        · rintro (h | h)
          · exact absurd h c
          · exact h
      · simp only [slices_Index_int64_int64.l0]
        rw [if_pos (by omega), if_pos (by omega), if_pos (by omega), if_neg c, w64 (n := (i : Int) + 1) (by omega) (by omega)]; rfl
theorem Contains_ (l : List Int) (x : Int) (hl : l.length ≤ 1048576) : Ev (fun k => slices_Contains_int64_int64.f k l x) (decide (x ∈ l)) := by
  obtain ⟨r, h1, h2⟩ := idx_l l x hl l.length 0 rfl (by omega)
  refine Ev.eq (h := fun k => (slices_Index_int64_int64.l0 k l x (l.length : Int) ((0 : Nat) : Int)).bind fun t => some (decide (t ≥ 0))) (fun k => rfl) (Ev.bind h2 ⟨0, fun k _ => ?_⟩)
  have : decide (r ≥ 0) = decide (x ∈ l) := by
    rw [List.drop_zero] at h1
    exact decide_eq_decide.2 h1
  rw [this]

def workB (a b : Int) : Bool := decide (1 ≤ a ∧ a ≤ 1000) && decide (0 ≤ b ∧ b ≤ 1000)
theorem workB_iff (a b : Int) : workB a b = true ↔ (1 ≤ a ∧ a ≤ 1000) ∧ 0 ≤ b ∧ b ≤ 1000 := by
  unfold workB; rw [Bool.and_eq_true, decide_eq_true_iff, decide_eq_true_iff]
theorem Times_ (a b : Int) : spec_l18Times.f a b = some (workB a b) := by
  unfold spec_l18Times.f workB
  rw [In_, In_]; simp only [Option.bind_some]
  by_cases h : 1 ≤ a ∧ a ≤ 1000
  · rw [decide_eq_true h, if_pos rfl, Bool.true_and]
  · rw [decide_eq_false h, if_neg (by simp), Bool.false_and]
theorem isWork_ (a b : Int) : impl_isWork.f a b = some (workB a b) := by
  unfold impl_isWork.f workB
  rw [within_, within_]; simp only [Option.bind_some]
  by_cases h : 1 ≤ a ∧ a ≤ 1000
  · rw [decide_eq_true h, if_pos rfl, Bool.true_and]
  · rw [decide_eq_false h, if_neg (by simp), Bool.false_and]
def codeW (l : List Int) (a b : Int) : Int := if okO l = true then (if workB a b = true then 0 else 2) else 1
theorem SpecCodeW_ (l : List Int) (a b : Int) : Ev (fun k => spec_l18Code.f k l a b) (codeW l a b) := by
  refine Ev.eq (h := fun k => (spec_l18Ok.f k l).bind fun t => if t = true then some (if workB a b = true then 0 else 2) else some 1) (fun k => ?_) (Ev.bind (SpecOrd_ l) ⟨0, fun k _ => ?_⟩)
  · unfold spec_l18Code.f
    rw [Times_]; simp only [Option.bind_some]
    congr 1; funext t
    by_cases h : workB a b = true
    · rw [if_pos h, if_pos h]
    · rw [if_neg h, if_neg h]
  · unfold codeW
    by_cases h : okO l = true <;> simp [h]
theorem ImplCodeW_ {β : Type} (l : List Int) (hl : l.length ≤ 1048576) (a b : Int) (f : Nat → Int → Option β) (r : β) (hf : Ev (fun k => f k (codeW l a b)) r) : Ev (fun k => (impl_ValidOrder.f k l).bind fun t => (impl_isWork.f a b).bind fun t2 => (impl_check.f t t2).bind fun t3 => f k t3) r := by
  refine Ev.bind (ImplOrd_ l hl) (Ev.eq (fun k => ?_) hf)
  rw [isWork_]; simp only [Option.bind_some]
  unfold impl_check.f codeW
  by_cases h : okO l = true
  · rw [if_pos h, if_pos h]
    by_cases g : workB a b = true
    · rw [if_pos g, if_pos g]; rfl
    · rw [if_neg g, if_neg g]; rfl
  · rw [if_neg h, if_neg h]; rfl
theorem codeW_0 {l : List Int} {a b : Int} (h : codeW l a b = 0) : okO l = true ∧ (1 ≤ a ∧ a ≤ 1000) ∧ 0 ≤ b ∧ b ≤ 1000 := by
  unfold codeW at h
  by_cases c : okO l = true
  · rw [if_pos c] at h
    by_cases d : workB a b = true
    · exact ⟨c, (workB_iff a b).1 d⟩
    · rw [if_neg d] at h; omega
  · rw [if_neg c] at h; omega

theorem own22_ (l : List Int) (hl : l.length ≤ 1048576) : spec_l00Own.f l = some l := by
  unfold spec_l00Own.f
  simp only [Option.bind_some]
  rw [if_pos (by simp; omega)]; simp

/-- The search over all orders. -/
noncomputable def seeQ (e d : Int) (o : List Int) (s : List Int × Int) : List Int × Int := if s.2 < 0 then (o, endV e d o) else if endV e d o < s.2 then (o, endV e d o) else s
def loopQ (f : Int → List Int × Int → List Int × Int) (o : List Int) : Nat → Int → List Int × Int → List Int × Int
  | 0, _, s => s
  | c + 1, g, s => loopQ f o c (g + 1) (if g ∈ o then s else f g s)
noncomputable def goQ (n : Nat) (e d : Int) : Nat → List Int → List Int × Int → List Int × Int
  | 0, o, s => seeQ e d o s
  | m + 1, o, s => loopQ (fun g s => goQ n e d m (o ++ [g]) s) o n 0 s
section
variable (n : Nat) (e d : Int) (n2 : 2 ≤ n) (n7 : n ≤ 7) (e0 : 1 ≤ e) (e1 : e ≤ 1000) (d0 : 0 ≤ d) (d1 : d ≤ 1000)
def inQ (n : Nat) (o : List Int) : Prop := o.Nodup ∧ ∀ x ∈ o, 0 ≤ x ∧ x < (n : Int)
theorem inQ.app {n : Nat} {o : List Int} (h : inQ n o) (g : Int) (g0 : 0 ≤ g) (g1 : g < n) (hg : g ∉ o) : inQ n (o ++ [g]) := by
  refine ⟨List.nodup_append.2 ⟨h.1, by simp, fun x hx y hy => ?_⟩, fun x hx => ?_⟩
  · rw [List.mem_singleton.1 hy]; rintro rfl; exact hg hx
  · rcases List.mem_append.1 hx with hx | hx
    · exact h.2 x hx
    · rw [List.mem_singleton.1 hx]; exact ⟨g0, g1⟩
include n2 n7 in
theorem inQ.ok {o : List Int} (h : inQ n o) (hl : o.length = n) : okO o = true := (okO_iff o).2 ⟨by omega, by omega, fun x hx => by have := h.2 x hx; omega, h.1⟩
include n2 n7 e0 e1 d0 d1 in
theorem specQ : ∀ (m : Nat) (o : List Int) (s : List Int × Int), o.length + m = n → inQ n o → Ev (fun k => qs_walk k (n : Int) e d o s.1 s.2) (goQ n e d m o s) := by
  intro m
  induction m with
  | zero =>
    intro o s hl ho
    have hk := inQ.ok n n2 n7 ho (by omega)
    obtain ⟨v0, v1, ⟨K, hK⟩, _⟩ := endV_ hk e d e0 e1 d0 d1
    refine ⟨K + 1, fun k hk => ?_⟩
    obtain ⟨k, rfl⟩ : ∃ m, k = m + 1 := ⟨k - 1, by omega⟩
    have hK := hK k (by omega)
    simp only at hK
    simp only [qs_walk, goQ, seeQ]
    rw [if_pos (by omega), hK]; simp only [Option.bind_some]
    have hown : spec_l00Own.f o = some o := own22_ o (by omega)
    by_cases c : s.2 < 0
    · rw [if_pos c, if_pos c, hown]; rfl
    · rw [if_neg c, if_neg c]
      by_cases c2 : endV e d o < s.2
      · rw [if_pos c2, if_pos c2, hown]; rfl
      · rw [if_neg c2, if_neg c2]
  | succ m ih =>
    intro o s hl ho
    have loop : ∀ (c : Nat) (g : Int) (s : List Int × Int), g + c = n → 0 ≤ g → Ev (fun k => qs_loop k (n : Int) e d o s.1 s.2 g) (loopQ (fun g s => goQ n e d m (o ++ [g]) s) o c g s) := by
      intro c
      induction c with
      | zero =>
        intro g s hg h0
        refine Ev.now (fun k => ?_)
        simp only [qs_loop, loopQ]
        rw [if_neg (by omega)]
      | succ c ihc =>
        intro g s hg h0
        have hr := ihc (g + 1) (if g ∈ o then s else goQ n e d m (o ++ [g]) s) (by omega) (by omega)
        obtain ⟨K1, h1⟩ := Has_ o g (by omega)
        obtain ⟨K2, h2⟩ := hr
        by_cases hm : g ∈ o
        · rw [if_pos hm] at h2
          refine ⟨K1 + K2 + 1, fun k hk => ?_⟩
          obtain ⟨k, rfl⟩ : ∃ m, k = m + 1 := ⟨k - 1, by omega⟩
          have h1 := h1 k (by omega)
          simp only at h1
          simp only [qs_loop, loopQ]
          rw [if_pos (by omega), h1, decide_eq_true hm, if_pos hm, w64 (n := g + 1) (by omega) (by omega)]; simp only [Option.bind_some, if_true]
          exact h2 k (by omega)
        · rw [if_neg hm] at h2
          obtain ⟨K3, h3⟩ := ih (o ++ [g]) s (by rw [List.length_append, List.length_singleton]; omega) (ho.app g h0 (by omega) hm)
          refine ⟨K1 + K2 + K3 + 1, fun k hk => ?_⟩
          obtain ⟨k, rfl⟩ : ∃ m, k = m + 1 := ⟨k - 1, by omega⟩
          have h1 := h1 k (by omega)
          have h3 := h3 k (by omega)
          simp only at h1 h3
          simp only [qs_loop, loopQ]
          rw [if_pos (by omega), h1, decide_eq_false hm, if_neg hm, w64 (n := g + 1) (by omega) (by omega)]; simp only [Option.bind_some, Bool.false_eq_true, if_false]
          rw [if_pos (by omega), h3]; simp only [Option.bind_some]
          exact h2 k (by omega)
    refine Ev.step (h := fun k => qs_loop k (n : Int) e d o s.1 s.2 0) (fun k => ?_) (loop n 0 s (by omega) (by omega))
    simp only [qs_walk]
    rw [if_neg (by omega)]
include n2 n7 e0 e1 d0 d1 in
theorem implQ : ∀ (m : Nat) (o : List Int) (s : List Int × Int), o.length + m = n → inQ n o → Ev (fun k => iq_put k (n : Int) e d o s.1 s.2) (goQ n e d m o s) := by
  intro m
  induction m with
  | zero =>
    intro o s hl ho
    have hk := inQ.ok n n2 n7 ho (by omega)
    obtain ⟨v0, v1, _, ⟨K, hK⟩⟩ := endV_ hk e d e0 e1 d0 d1
    have loop : ∀ (c : Nat) (g : Int) (s : List Int × Int), g + c = n → 0 ≤ g → Ev (fun k => iq_loop k (n : Int) e d o s.1 s.2 g) s := by
      intro c
      induction c with
      | zero =>
        intro g s hg h0
        refine Ev.now (fun k => ?_)
        simp only [iq_loop]
        rw [if_neg (by omega)]
      | succ c ihc =>
        intro g s hg h0
        obtain ⟨K1, h1⟩ := Contains_ o g (by omega)
        obtain ⟨K2, h2⟩ := ihc (g + 1) s (by omega) (by omega)
        have hm : g ∈ o := all_in hk g h0 (by omega)
        refine ⟨K1 + K2 + 1, fun k hk => ?_⟩
        obtain ⟨k, rfl⟩ : ∃ m, k = m + 1 := ⟨k - 1, by omega⟩
        have h1 := h1 k (by omega)
        simp only at h1
        simp only [iq_loop]
        rw [if_pos (by omega), h1, decide_eq_true hm, w64 (n := g + 1) (by omega) (by omega)]; simp only [Option.bind_some, if_true]
        exact h2 k (by omega)
    obtain ⟨L, hL⟩ := loop n 0 (seeQ e d o s) (by omega) (by omega)
    refine ⟨K + L + 1, fun k hk => ?_⟩
    obtain ⟨k, rfl⟩ : ∃ m, k = m + 1 := ⟨k - 1, by omega⟩
    have hK := hK k (by omega)
    have hL := hL k (by omega)
    simp only at hK hL
    have hown : slices_Clone_int64_int64.f o = some o := by unfold slices_Clone_int64_int64.f; rw [if_pos (by omega)]
    have hv : iq_visit k e d o s.1 s.2 = some (seeQ e d o s) := by
      unfold iq_visit seeQ
      rw [hK]; simp only [Option.bind_some]
      by_cases c : s.2 < 0
      · rw [if_pos c, if_pos c, hown]; rfl
      · rw [if_neg c, if_neg c]
        by_cases c2 : endV e d o < s.2
        · rw [if_pos c2, if_pos c2, hown]; rfl
        · rw [if_neg c2, if_neg c2]
    simp only [iq_put, goQ]
    rw [if_pos (by omega), hv]; simp only [Option.bind_some]
    exact hL
  | succ m ih =>
    intro o s hl ho
    have loop : ∀ (c : Nat) (g : Int) (s : List Int × Int), g + c = n → 0 ≤ g → Ev (fun k => iq_loop k (n : Int) e d o s.1 s.2 g) (loopQ (fun g s => goQ n e d m (o ++ [g]) s) o c g s) := by
      intro c
      induction c with
      | zero =>
        intro g s hg h0
        refine Ev.now (fun k => ?_)
        simp only [iq_loop, loopQ]
        rw [if_neg (by omega)]
      | succ c ihc =>
        intro g s hg h0
        have hr := ihc (g + 1) (if g ∈ o then s else goQ n e d m (o ++ [g]) s) (by omega) (by omega)
        obtain ⟨K1, h1⟩ := Contains_ o g (by omega)
        obtain ⟨K2, h2⟩ := hr
        by_cases hm : g ∈ o
        · rw [if_pos hm] at h2
          refine ⟨K1 + K2 + 1, fun k hk => ?_⟩
          obtain ⟨k, rfl⟩ : ∃ m, k = m + 1 := ⟨k - 1, by omega⟩
          have h1 := h1 k (by omega)
          simp only at h1
          simp only [iq_loop, loopQ]
          rw [if_pos (by omega), h1, decide_eq_true hm, if_pos hm, w64 (n := g + 1) (by omega) (by omega)]; simp only [Option.bind_some, if_true]
          exact h2 k (by omega)
        · rw [if_neg hm] at h2
          obtain ⟨K3, h3⟩ := ih (o ++ [g]) s (by rw [List.length_append, List.length_singleton]; omega) (ho.app g h0 (by omega) hm)
          refine ⟨K1 + K2 + K3 + 1, fun k hk => ?_⟩
          obtain ⟨k, rfl⟩ : ∃ m, k = m + 1 := ⟨k - 1, by omega⟩
          have h1 := h1 k (by omega)
          have h3 := h3 k (by omega)
          simp only at h1 h3
          simp only [iq_loop, loopQ]
          rw [if_pos (by omega), h1, decide_eq_false hm, if_neg hm, w64 (n := g + 1) (by omega) (by omega)]; simp only [Option.bind_some, Bool.false_eq_true, if_false]
          rw [if_pos (by omega), h3]; simp only [Option.bind_some]
          exact h2 k (by omega)
    refine Ev.step (h := fun k => iq_loop k (n : Int) e d o s.1 s.2 0) (fun k => ?_) (loop n 0 s (by omega) (by omega))
    simp only [iq_put]
    rw [if_neg (by omega)]
theorem loopQ_len (f : Int → List Int × Int → List Int × Int) (hf : ∀ g s, s.1.length ≤ 7 → (f g s).1.length ≤ 7) (o : List Int) : ∀ (c : Nat) (g : Int) (s : List Int × Int), s.1.length ≤ 7 → (loopQ f o c g s).1.length ≤ 7 := by
  intro c
  induction c with
  | zero => intro g s h; exact h
  | succ c ih =>
    intro g s h
    refine ih _ _ ?_
    split
    · exact h
    · exact hf g s h
theorem goQ_len (n : Nat) (e d : Int) : ∀ (m : Nat) (o : List Int) (s : List Int × Int), o.length + m ≤ 7 → s.1.length ≤ 7 → (goQ n e d m o s).1.length ≤ 7 := by
  intro m
  induction m with
  | zero =>
    intro o s ho h
    simp only [goQ, seeQ]
    split
    · show o.length ≤ 7; omega
    · split
      · show o.length ≤ 7; omega
      · exact h
  | succ m ih =>
    intro o s ho h
    exact loopQ_len _ (fun g s hs => ih (o ++ [g]) s (by rw [List.length_append, List.length_singleton]; omega) hs) o n 0 s h
end
noncomputable def quickR (n e d : Int) : List Int × Int × Int := if (2 ≤ n ∧ n ≤ 7) ∧ workB e d = true then ((goQ n.toNat e d n.toNat [] ([], -1)).1, (goQ n.toNat e d n.toNat [] ([], -1)).2, 0) else ([], 0, 2)
theorem QuickR_len (n e d : Int) : (quickR n e d).1.length ≤ 7 := by
  unfold quickR
  by_cases c : (2 ≤ n ∧ n ≤ 7) ∧ workB e d = true
  · rw [if_pos c]; exact goQ_len n.toNat e d n.toNat [] ([], -1) (by simp; omega) (by simp)
  · rw [if_neg c]; simp
theorem QuickR_ (n e d : Int) : Ev (fun k => spec_QuickOrder.f k n e d) (quickR n e d) ∧ Ev (fun k => impl_QuickOrder.f k n e d) (quickR n e d) := by
  unfold quickR
  by_cases c : 2 ≤ n ∧ n ≤ 7
  · by_cases c2 : workB e d = true
    · rw [if_pos ⟨c, c2⟩]
      obtain ⟨⟨w1, w2⟩, w3, w4⟩ := (workB_iff e d).1 c2
      have hin : inQ n.toNat [] := ⟨List.nodup_nil, fun x hx => by simp at hx⟩
      have a1 := specQ n.toNat e d (by omega) (by omega) w1 w2 w3 w4 n.toNat [] ([], -1) (by simp) hin
      have a2 := implQ n.toNat e d (by omega) (by omega) w1 w2 w3 w4 n.toNat [] ([], -1) (by simp) hin
      rw [show ((n.toNat : Nat) : Int) = n by omega] at a1 a2
      constructor
      · refine Ev.eq (h := fun k => (qs_walk k n e d [] [] (-1)).bind fun r => some (r.1, r.2, 0)) (fun k => ?_) (Ev.bind a1 ⟨0, fun k _ => rfl⟩)
        unfold spec_QuickOrder.f
        rw [In_, Times_, decide_eq_true c, c2]; rfl
      · refine Ev.eq (h := fun k => (iq_put k n e d [] [] (-1)).bind fun r => some (r.1, r.2, 0)) (fun k => ?_) (Ev.bind a2 ⟨0, fun k _ => rfl⟩)
        unfold impl_QuickOrder.f
        rw [within_, isWork_, decide_eq_true c, c2]; rfl
    · rw [if_neg (fun h => c2 h.2)]
      have c2' : workB e d = false := by simpa using c2
      constructor
      · refine ⟨0, fun k _ => ?_⟩
        unfold spec_QuickOrder.f
        rw [In_, Times_, decide_eq_true c, c2']; rfl
      · refine ⟨0, fun k _ => ?_⟩
        unfold impl_QuickOrder.f
        rw [within_, isWork_, decide_eq_true c, c2']; rfl
  · rw [if_neg (fun h => c h.1)]
    constructor
    · refine ⟨0, fun k _ => ?_⟩
      unfold spec_QuickOrder.f
      rw [In_, decide_eq_false c]; rfl
    · refine ⟨0, fun k _ => ?_⟩
      unfold impl_QuickOrder.f
      rw [within_, decide_eq_false c]; rfl
theorem Quick_ (n e d : Int) : ∃ r : List Int × Int × Int, r.1.length ≤ 7 ∧ Ev (fun k => spec_QuickOrder.f k n e d) r ∧ Ev (fun k => impl_QuickOrder.f k n e d) r := ⟨_, QuickR_len n e d, QuickR_ n e d⟩

-- what the search over all orders finds: nothing that was seen ends sooner
section
variable (n : Nat) (e d : Int) (n2 : 2 ≤ n) (n7 : n ≤ 7) (e0 : 1 ≤ e) (e1 : e ≤ 1000) (d0 : 0 ≤ d) (d1 : d ≤ 1000)
/-- A state of the search: none yet, or a whole order with its end. -/
def FineQ (n : Nat) (e d : Int) (s : List Int × Int) : Prop := s.2 < 0 ∨ (s.1.length = n ∧ inQ n s.1 ∧ s.2 = endV e d s.1 ∧ 0 ≤ s.2)
/-- One state is no worse than another one. -/
def BetterQ (s t : List Int × Int) : Prop := s.2 < 0 ∨ (0 ≤ t.2 ∧ t.2 ≤ s.2)
theorem BetterQ.refl (s : List Int × Int) : BetterQ s s := by unfold BetterQ; omega
theorem BetterQ.trans {s t u : List Int × Int} (h : BetterQ s t) (k : BetterQ t u) : BetterQ s u := by unfold BetterQ at *; omega
include n2 n7 e0 e1 d0 d1 in
theorem seeQ_fine {o : List Int} (ho : inQ n o) (hl : o.length = n) (s : List Int × Int) (hs : FineQ n e d s) : FineQ n e d (seeQ e d o s) ∧ BetterQ s (seeQ e d o s) ∧ 0 ≤ (seeQ e d o s).2 ∧ (seeQ e d o s).2 ≤ endV e d o := by
  obtain ⟨v0, v1, _⟩ := endV_ (inQ.ok n n2 n7 ho hl) e d e0 e1 d0 d1
  unfold seeQ
  by_cases c : s.2 < 0
  · rw [if_pos c]; exact ⟨.inr ⟨hl, ho, rfl, v0⟩, .inl c, v0, Int.le_refl _⟩
  · rw [if_neg c]
    by_cases c2 : endV e d o < s.2
    · rw [if_pos c2]; exact ⟨.inr ⟨hl, ho, rfl, v0⟩, .inr ⟨v0, by show endV e d o ≤ s.2; omega⟩, v0, Int.le_refl _⟩
    · rw [if_neg c2]; exact ⟨hs, BetterQ.refl s, by omega, by omega⟩
theorem loopQ_fine (f : Int → List Int × Int → List Int × Int) (o : List Int) (P : List Int × Int → Prop) (hf : ∀ (g : Int) (s : List Int × Int), 0 ≤ g → g < n → g ∉ o → P s → P (f g s) ∧ BetterQ s (f g s)) : ∀ (c : Nat) (g : Int) (s : List Int × Int), g + c = n → 0 ≤ g → P s → P (loopQ f o c g s) ∧ BetterQ s (loopQ f o c g s) := by
  intro c
  induction c with
  | zero => intro g s _ _ h; exact ⟨h, BetterQ.refl s⟩
  | succ c ih =>
    intro g s hg h0 h
    by_cases hm : g ∈ o
    · simp only [loopQ]; rw [if_pos hm]; exact ih (g + 1) s (by omega) (by omega) h
    · simp only [loopQ]; rw [if_neg hm]
      obtain ⟨a1, a2⟩ := hf g s h0 (by omega) hm h
      obtain ⟨b1, b2⟩ := ih (g + 1) (f g s) (by omega) (by omega) a1
      exact ⟨b1, a2.trans b2⟩
/-- What comes up on the way. -/
theorem loopQ_at (f : Int → List Int × Int → List Int × Int) (o : List Int) (P : List Int × Int → Prop) (hf : ∀ (g : Int) (s : List Int × Int), 0 ≤ g → g < n → g ∉ o → P s → P (f g s) ∧ BetterQ s (f g s)) (x : Int) (hx : x ∉ o) : ∀ (c : Nat) (g : Int) (s : List Int × Int), g + c = n → 0 ≤ g → P s → g ≤ x → x < n → ∃ t, P t ∧ BetterQ (f x t) (loopQ f o c g s) := by
  intro c
  induction c with
  | zero => intro g s _ _ _ _ _; omega
  | succ c ih =>
    intro g s hg h0 h hgx hxn
    by_cases hgx2 : g = x
    · subst hgx2
      simp only [loopQ]; rw [if_neg hx]
      obtain ⟨a1, a2⟩ := hf g s h0 hxn hx h
      exact ⟨s, h, (loopQ_fine n f o P hf c (g + 1) (f g s) (by omega) (by omega) a1).2⟩
    · simp only [loopQ]
      by_cases hm : g ∈ o
      · rw [if_pos hm]; exact ih (g + 1) s (by omega) (by omega) h (by omega) hxn
      · rw [if_neg hm]; exact ih (g + 1) (f g s) (by omega) (by omega) (hf g s h0 (by omega) hm h).1 (by omega) hxn
include n2 n7 e0 e1 d0 d1 in
theorem goQ_fine : ∀ (m : Nat) (o : List Int) (s : List Int × Int), o.length + m = n → inQ n o → FineQ n e d s → FineQ n e d (goQ n e d m o s) ∧ BetterQ s (goQ n e d m o s) := by
  intro m
  induction m with
  | zero =>
    intro o s hl ho hs
    have := seeQ_fine n e d n2 n7 e0 e1 d0 d1 ho (by omega) s hs
    exact ⟨this.1, this.2.1⟩
  | succ m ih =>
    intro o s hl ho hs
    exact loopQ_fine n _ o (FineQ n e d) (fun g s g0 g1 hg h => ih (o ++ [g]) s (by rw [List.length_append, List.length_singleton]; omega) (ho.app g g0 g1 hg) h) n 0 s (by omega) (by omega) hs
include n2 n7 e0 e1 d0 d1 in
theorem goQ_least : ∀ (m : Nat) (o r : List Int) (s : List Int × Int), o.length + m = n → r.length = m → inQ n (o ++ r) → FineQ n e d s → 0 ≤ (goQ n e d m o s).2 ∧ (goQ n e d m o s).2 ≤ endV e d (o ++ r) := by
  intro m
  induction m with
  | zero =>
    intro o r s hl hr ho hs
    obtain rfl := List.eq_nil_of_length_eq_zero hr
    rw [List.append_nil] at ho ⊢
    exact (seeQ_fine n e d n2 n7 e0 e1 d0 d1 ho (by omega) s hs).2.2
  | succ m ih =>
    intro o r s hl hr ho hs
    cases r with
    | nil => simp at hr
    | cons x r =>
      have ho1 : inQ n o := ⟨(List.nodup_append.1 ho.1).1, fun y hy => ho.2 y (List.mem_append_left _ hy)⟩
      have hx : x ∉ o := fun hx => (List.nodup_append.1 ho.1).2.2 x hx x List.mem_cons_self rfl
      have hxb := ho.2 x (List.mem_append_right _ List.mem_cons_self)
      have hap : o ++ x :: r = (o ++ [x]) ++ r := by simp
      obtain ⟨t, t1, t2⟩ := loopQ_at n (fun g s => goQ n e d m (o ++ [g]) s) o (FineQ n e d) (fun g s g0 g1 hg h => goQ_fine n e d n2 n7 e0 e1 d0 d1 m (o ++ [g]) s (by rw [List.length_append, List.length_singleton]; omega) (ho1.app g g0 g1 hg) h) x hx n 0 s (by omega) (by omega) hs hxb.1 hxb.2
      have hi := ih (o ++ [x]) r t (by rw [List.length_append, List.length_singleton]; omega) (by simpa using hr) (by rw [← hap]; exact ho) t1
      rw [← hap] at hi
      have hb : BetterQ (goQ n e d m (o ++ [x]) t) (goQ n e d (m + 1) o s) := t2
      unfold BetterQ at hb
      omega
end
theorem quick_least (n e d : Int) (h : (quickR n e d).2.2 = 0) : (2 ≤ n ∧ n ≤ 7) ∧ workB e d = true ∧ okO (quickR n e d).1 = true ∧ ((quickR n e d).1.length : Int) = n ∧ (quickR n e d).2.1 = endV e d (quickR n e d).1 ∧ ∀ l : List Int, okO l = true → (l.length : Int) = n → (quickR n e d).2.1 ≤ endV e d l := by
  unfold quickR at h ⊢
  by_cases c : (2 ≤ n ∧ n ≤ 7) ∧ workB e d = true
  · rw [if_pos c] at h ⊢
    obtain ⟨⟨w1, w2⟩, w3, w4⟩ := (workB_iff e d).1 c.2
    have hin : inQ n.toNat [] := ⟨List.nodup_nil, fun x hx => by simp at hx⟩
    have hs : FineQ n.toNat e d ([], -1) := .inl (by show (-1 : Int) < 0; omega)
    have hf := (goQ_fine n.toNat e d (by omega) (by omega) w1 w2 w3 w4 n.toNat [] ([], -1) (by simp) hin hs).1
    have hall : ∀ l : List Int, okO l = true → (l.length : Int) = n → 0 ≤ (goQ n.toNat e d n.toNat [] ([], -1)).2 ∧ (goQ n.toNat e d n.toNat [] ([], -1)).2 ≤ endV e d l := by
      intro l hl hn
      obtain ⟨o1, o2, o3, o4⟩ := (okO_iff l).1 hl
      have := goQ_least n.toNat e d (by omega) (by omega) w1 w2 w3 w4 n.toNat [] l ([], -1) (by simp) (by omega) ⟨by simpa using o4, fun x hx => by have := o3 x (by simpa using hx); omega⟩ hs
      simpa using this
    have hpos : 0 ≤ (goQ n.toNat e d n.toNat [] ([], -1)).2 := by
      have hid : okO ((List.range n.toNat).map fun (j : Nat) => (j : Int)) = true := (okO_iff _).2 ⟨by simp; omega, by simp; omega, fun x hx => by
        obtain ⟨j, hj, rfl⟩ := List.mem_map.1 hx
        have := List.mem_range.1 hj
        simp; omega, List.Pairwise.map _ (fun a b hab z => hab (by have z2 : (a : Int) = (b : Int) := z; omega)) List.nodup_range⟩
      exact (hall _ hid (by simp; omega)).1
    rcases hf with hf | ⟨f1, f2, f3, f4⟩
    · omega
    · exact ⟨c.1, c.2, inQ.ok n.toNat (by omega) (by omega) f2 f1, by show ((goQ n.toNat e d n.toNat [] ([], -1)).1.length : Int) = n; omega, f3, fun l hl hn => (hall l hl hn).2⟩
  · rw [if_neg c] at h; exact absurd h (by decide)

/-- Both answers to StartsOfPasting and EndOfPasting. -/
theorem StartsE_ (l : List Int) (hl : l.length ≤ 1048576) (a b : Int) (r : List Int) (h : codeW l a b = 0 → Ev (fun k => spec_l18Starts.f k l a b) r ∧ Ev (fun k => impl_startsOfPasting.f k l a b) r) (h0 : codeW l a b ≠ 0 → r = []) : Ev (fun k => spec_StartsOfPasting.f k l a b) (r, codeW l a b) ∧ Ev (fun k => impl_StartsOfPasting.f k l a b) (r, codeW l a b) := by
  by_cases c : codeW l a b = 0
  · obtain ⟨h1, h2⟩ := h c
    refine ⟨Ev.eq (h := fun k => (spec_l18Code.f k l a b).bind fun t => if t = 0 then ((spec_l18Starts.f k l a b).bind fun u => some (u, 0)) else some ([], t)) (fun k => rfl) (Ev.bind (SpecCodeW_ l a b) ?_), ImplCodeW_ l hl a b (fun k t => if t = 0 then ((impl_startsOfPasting.f k l a b).bind fun u => some (u, 0)) else some ([], t)) _ ?_⟩
    · rw [c]; simp only [if_true]; exact Ev.bind h1 ⟨0, fun k _ => rfl⟩
    · rw [c]; simp only [if_true]; exact Ev.bind h2 ⟨0, fun k _ => rfl⟩
  · rw [h0 c]
    refine ⟨Ev.eq (h := fun k => (spec_l18Code.f k l a b).bind fun t => if t = 0 then ((spec_l18Starts.f k l a b).bind fun u => some (u, 0)) else some ([], t)) (fun k => rfl) (Ev.bind (SpecCodeW_ l a b) ⟨0, fun k _ => if_neg c⟩), ImplCodeW_ l hl a b (fun k t => if t = 0 then ((impl_startsOfPasting.f k l a b).bind fun u => some (u, 0)) else some ([], t)) _ ⟨0, fun k _ => if_neg c⟩⟩
theorem EndE_ (l : List Int) (hl : l.length ≤ 1048576) (a b : Int) (v : Int) (h : codeW l a b = 0 → Ev (fun k => spec_l18End.f k l a b) v ∧ Ev (fun k => impl_endOfPasting.f k l a b) v) (h0 : codeW l a b ≠ 0 → v = 0) : Ev (fun k => spec_EndOfPasting.f k l a b) (v, codeW l a b) ∧ Ev (fun k => impl_EndOfPasting.f k l a b) (v, codeW l a b) := by
  by_cases c : codeW l a b = 0
  · obtain ⟨h1, h2⟩ := h c
    refine ⟨Ev.eq (h := fun k => (spec_l18Code.f k l a b).bind fun t => if t = 0 then ((spec_l18End.f k l a b).bind fun u => some (u, 0)) else some (0, t)) (fun k => rfl) (Ev.bind (SpecCodeW_ l a b) ?_), ImplCodeW_ l hl a b (fun k t => if t = 0 then ((impl_endOfPasting.f k l a b).bind fun u => some (u, 0)) else some (0, t)) _ ?_⟩
    · rw [c]; simp only [if_true]; exact Ev.bind h1 ⟨0, fun k _ => rfl⟩
    · rw [c]; simp only [if_true]; exact Ev.bind h2 ⟨0, fun k _ => rfl⟩
  · rw [h0 c]
    refine ⟨Ev.eq (h := fun k => (spec_l18Code.f k l a b).bind fun t => if t = 0 then ((spec_l18End.f k l a b).bind fun u => some (u, 0)) else some (0, t)) (fun k => rfl) (Ev.bind (SpecCodeW_ l a b) ⟨0, fun k _ => if_neg c⟩), ImplCodeW_ l hl a b (fun k t => if t = 0 then ((impl_endOfPasting.f k l a b).bind fun u => some (u, 0)) else some (0, t)) _ ⟨0, fun k _ => if_neg c⟩⟩

theorem Ev.one {α : Type} {g : Nat → Option α} {r r' : α} (h : Ev g r) (h' : Ev g r') : r = r' := by
  obtain ⟨K, h⟩ := h
  obtain ⟨L, h'⟩ := h'
  have a := h (K + L) (by omega)
  have b := h' (K + L) (by omega)
  exact Option.some.inj (a.symm.trans b)
/-- Starts and end of an order, with what the law asks of them. -/
theorem Paste_ {l : List Int} (o : okO l = true) (a b : Int) (a0 : 1 ≤ a) (a1 : a ≤ 1000) (b0 : 0 ≤ b) (b1 : b ≤ 1000) : ∃ r : List Int, Ev (fun k => spec_l18Starts.f k l a b) r ∧ Ev (fun k => impl_startsOfPasting.f k l a b) r ∧ r.length = l.length ∧ (∀ x : Int, 0 ≤ x → x < l.length → 0 ≤ rd r x ∧ rd r x ≤ 100000 ∧ rd r x + a + b ≤ endV a b l) ∧ ∀ x : Int, 0 ≤ x → x < l.length → rd r x ≠ rd r (Int.tmod (x + 1) l.length) → a + b ≤ rd r x - rd r (Int.tmod (x + 1) l.length) ∨ a + b ≤ rd r (Int.tmod (x + 1) l.length) - rd r x := by
  have hn := (okO_iff l).1 o
  obtain ⟨r, r1, r2, r3, r4, r5⟩ := Starts2_ o a b a0 a1 b0 b1
  have hla := rd_ok o (l.length - 1) (by omega)
  have hlb := r4 _ hla.1 hla.2
  have hw : wrap64 (wrap64 (rd r (rd l ((l.length - 1 : Nat) : Int)) + a) + b) = rd r (rd l ((l.length - 1 : Nat) : Int)) + a + b := by
    rw [w64 (n := rd r (rd l ((l.length - 1 : Nat) : Int)) + a) (by omega) (by omega), w64 (by omega) (by omega)]
  have he : Ev (fun k => spec_l18End.f k l a b) (rd r (rd l ((l.length - 1 : Nat) : Int)) + a + b) := by
    refine Ev.bind r1 ⟨0, fun k _ => ?_⟩
    rw [w64 (n := (l.length : Int) - 1) (by omega) (by omega), if_pos (by omega), if_pos (by omega), show (l.length : Int) - 1 = ((l.length - 1 : Nat) : Int) by omega, if_pos hla.1, if_pos (by omega), hw]
  have hv := he.one (endV_ o a b a0 a1 b0 b1).2.2.1
  refine ⟨r, r1, r2, r3, fun x x0 x1 => ?_, fun x x0 x1 hne => ?_⟩
  · have := r4 x x0 x1
    rw [← hv]; omega
  · have hy := tmod_in (x + 1) (l.length : Int) (by omega) (by omega)
    obtain ⟨p1, p2⟩ := pos_says o x x0 x1
    obtain ⟨q1, q2⟩ := pos_says o _ hy.1 hy.2
    have hxy : x ≠ Int.tmod (x + 1) (l.length : Int) := fun z => hne (by rw [← z])
    have t1 : Int.tmod (x + 1) (l.length : Int) = if x + 1 = l.length then 0 else x + 1 := by
      split
      · rename_i z; rw [z, Int.tmod_self]
      · rw [Int.tmod_eq_of_lt (by omega) (by omega)]
    rcases Nat.lt_trichotomy (pos l x) (pos l (Int.tmod (x + 1) (l.length : Int))) with g | g | g
    · have := r5 _ _ q1 g (by
        rw [p2, q2]
        right
        rw [t1]
        split
        · rename_i z; rw [show (0 : Int) + l.length - 1 = x by omega, Int.tmod_eq_of_lt (by omega) (by omega)]
        · rw [Int.tmod_eq_emod_of_nonneg (by omega), show x + 1 + (l.length : Int) - 1 = x + (l.length : Int) by omega, (by first | exact Int.add_emod_right _ _ | exact Int.add_emod_self_right _ _ | exact Int.add_emod_right | simp : (x + (l.length : Int)) % (l.length : Int) = x % (l.length : Int)), Int.emod_eq_of_lt (by omega) (by omega)])
      rw [p2, q2] at this
      right; omega
    · exact absurd (p2.symm.trans ((congrArg (fun z : Nat => rd l (z : Int)) g).trans q2)) hxy
    · have := r5 _ _ p1 g (by rw [p2, q2]; left; rfl)
      rw [p2, q2] at this
      left; omega

theorem rd_mem (l : List Int) (i : Int) (h0 : 0 ≤ i) (h : i < l.length) : rd l i ∈ l := by
  unfold rd
  rw [List.getD_eq_getElem?_getD, List.getElem?_eq_getElem (by omega)]
  exact List.getElem_mem _
theorem u64_range (n : Int) : 0 ≤ IntKind.u64.wrap n ∧ IntKind.u64.wrap n < 18446744073709551616 := by
  have e : IntKind.u64.wrap n = n % 18446744073709551616 := by simp [IntKind.wrap, IntKind.bits, IntKind.signed]
  rw [e]; omega
theorem low_byte (n : Int) : 0 ≤ Go.bits .and .u64 (IntKind.u64.wrap n / 1099511627776) 255 ∧ Go.bits .and .u64 (IntKind.u64.wrap n / 1099511627776) 255 ≤ 255 := by
  have h := u64_range n
  have e : Go.bits .and .u64 (IntKind.u64.wrap n / 1099511627776) 255 = (IntKind.u64.wrap n / 1099511627776) % 256 :=
    Go.bits_mask .u64 64 (by decide) (fun m g0 g1 => by
      have e : IntKind.u64.wrap m = m % 18446744073709551616 := by simp [IntKind.wrap, IntKind.bits, IntKind.signed]
      have : (2 : Int) ^ 64 = 18446744073709551616 := by decide
      rw [e]; omega) 8 (by decide) _ (by omega) (by have : (2 : Int) ^ 64 = 18446744073709551616 := by decide
                                                    omega)
  rw [e]; omega
theorem low_byte_w (n : Int) : 0 ≤ wrap64 (Go.bits .and .u64 (IntKind.u64.wrap n / 1099511627776) 255) ∧ wrap64 (Go.bits .and .u64 (IntKind.u64.wrap n / 1099511627776) 255) ≤ 255 := by
  have h := low_byte n
  rw [w64 (by omega) (by omega)]; exact h
theorem Next_ (l : List Int) (hl : ∀ x ∈ l, 0 ≤ x ∧ x ≤ 255) (a s : Int) (h0 : 0 ≤ a) (h1 : a ≤ 1152921504606846976) : ∃ v s', spec_l00Src_next.f l a s = some (v, a + 1, s') ∧ 0 ≤ v ∧ v ≤ 255 := by
  unfold spec_l00Src_next.f
  have hw : wrap64 (a + 1) = a + 1 := w64 (by omega) (by omega)
  by_cases c : a < (l.length : Int)
  · have hb := hl _ (rd_mem l a h0 c)
    rw [if_pos c, if_pos h0, hw, if_pos (by omega)]
    exact ⟨_, _, rfl, by rw [w64 (by omega) (by omega)]; omega, by rw [w64 (by omega) (by omega)]; omega⟩
  · rw [if_neg c, hw, if_neg (by omega)]
    exact ⟨_, _, rfl, (low_byte_w _).1, (low_byte_w _).2⟩

theorem Pick_ (l : List Int) (hl : ∀ x ∈ l, 0 ≤ x ∧ x ≤ 255) (a s n : Int) (h0 : 0 ≤ a) (h1 : a ≤ 1000000000000) : ∃ v a' s', spec_l00Src_pick.f l a s n = some (v, a', s') ∧ a ≤ a' ∧ a' ≤ a + 2 ∧ 0 ≤ v ∧ v ≤ 65535 ∧ (1 ≤ n → v < n) ∧ (n ≤ 1 → v = 0) := by
  unfold spec_l00Src_pick.f
  by_cases c : n ≤ 1
  · rw [if_pos c]; exact ⟨0, a, s, rfl, by omega, by omega, by omega, by omega, by omega, by omega⟩
  · obtain ⟨v, s', hv, v0, v1⟩ := Next_ l hl a s h0 (by omega)
    rw [if_neg c, hv]; simp only [Option.bind_some]
    by_cases d : n > 200
    · obtain ⟨u, s2, hu, u0, u1⟩ := Next_ l hl (a + 1) s' (by omega) (by omega)
      rw [if_pos d, hu]; simp only [Option.bind_some]
      rw [if_neg (by omega), w64 (n := v * 256) (by omega) (by omega), w64 (n := v * 256 + u) (by omega) (by omega), tmod_eq _ _ (by omega), if_pos (by omega)]
      have g0 := Int.emod_nonneg (v * 256 + u) (b := n) (by omega)
      have g1 := Int.emod_lt_of_pos (v * 256 + u) (b := n) (by omega)
      have g2 := Int.mul_ediv_add_emod (v * 256 + u) n
      have g3 := Int.mul_nonneg (show 0 ≤ n by omega) (Int.ediv_nonneg (show 0 ≤ v * 256 + u by omega) (show 0 ≤ n by omega))
      exact ⟨_, _, _, rfl, by omega, by omega, g0, by omega, fun _ => g1, fun _ => by omega⟩
    · rw [if_neg d, if_neg (by omega), tmod_eq _ _ (by omega), if_pos (by omega)]
      have g0 := Int.emod_nonneg v (b := n) (by omega)
      have g1 := Int.emod_lt_of_pos v (b := n) (by omega)
      exact ⟨_, _, _, rfl, by omega, by omega, g0, by omega, fun _ => g1, fun _ => by omega⟩

theorem One_ (l : List Int) (hl : ∀ x ∈ l, 0 ≤ x ∧ x ≤ 255) (a s n : Int) (h0 : 0 ≤ a) (h1 : a ≤ 1000000000000) : ∃ b a' s', spec_l00Src_one.f l a s n = some (b, a', s') ∧ a ≤ a' ∧ a' ≤ a + 2 := by
  unfold spec_l00Src_one.f
  obtain ⟨v, a', s', h, g1, g2, _⟩ := Pick_ l hl a s n h0 h1
  rw [h]; exact ⟨_, _, _, rfl, g1, g2⟩

theorem Among_ (l : List Int) (hl : ∀ x ∈ l, 0 ≤ x ∧ x ≤ 255) (a s : Int) (xs : List Int) (hx : 0 < xs.length) (h0 : 0 ≤ a) (h1 : a ≤ 1000000000000) : ∃ v a' s', spec_l00Src_among.f l a s xs = some (v, a', s') ∧ a ≤ a' ∧ a' ≤ a + 2 ∧ v ∈ xs := by
  unfold spec_l00Src_among.f
  obtain ⟨v, a', s', h, g1, g2, g3, g4, g5, g6⟩ := Pick_ l hl a s xs.length h0 h1
  have := g5 (by omega)
  rw [h]; simp only [Option.bind_some]
  rw [if_pos g3, if_pos this]
  exact ⟨_, _, _, rfl, g1, g2, rd_mem _ _ g3 this⟩

theorem Perm_l (l : List Int) (hl : ∀ x ∈ l, 0 ≤ x ∧ x ≤ 255) (n : Int) (hn : n ≤ 100) : ∀ (d : Nat) (i a s : Int) (R : List Int), (n - i).toNat = d → 0 ≤ i → (R.length : Int) = i → 0 ≤ a → a + 2 * d ≤ 100000000000 → EvP (fun k => spec_l18Perm.l0 k n R i l a s) (fun r => (r.1.length : Int) = i + d ∧ a ≤ r.2.1 ∧ r.2.1 ≤ a + 2 * d) := by
  intro d
  induction d with
  | zero =>
    intro i a s R hd hi hR h0 h1
    refine ⟨(R, a, s), ⟨by show (R.length : Int) = i + ((0 : Nat) : Int); omega, Int.le_refl _, by show a ≤ a + 2 * ((0 : Nat) : Int); omega⟩, Ev.now (fun k => ?_)⟩
    simp only [spec_l18Perm.l0]
    rw [if_neg (by omega)]
  | succ d ih =>
    intro i a s R hd hi hR h0 h1
    obtain ⟨v, a', s', hv, g1, g2, g3, g4, g5, g6⟩ := Pick_ l hl a s (i + 1) h0 (by omega)
    have hv1 : v < i + 1 := g5 (by omega)
    have hlen : ((R.take v.toNat ++ [i] ++ R.drop v.toNat).length : Int) = i + 1 := by
      simp only [List.length_append, List.length_take, List.length_drop, List.length_cons, List.length_nil]; omega
    obtain ⟨r, ⟨r1, r2, r3⟩, r4⟩ := ih (i + 1) a' s' (R.take v.toNat ++ [i] ++ R.drop v.toNat) (by omega) (by omega) hlen (by omega) (by omega)
    refine ⟨r, ⟨by omega, by omega, by omega⟩, Ev.step (fun k => ?_) r4⟩
    have ht : (R.take v.toNat).length ≤ 1048576 := by rw [List.length_take]; omega
    simp only [spec_l18Perm.l0]
    rw [if_pos (by omega), w64 (n := i + 1) (by omega) (by omega), hv]; simp only [Option.bind_some]
    rw [if_pos g3, if_pos (by omega), own22_ _ ht]; simp only [Option.bind_some]
    rw [if_pos (by omega), if_pos (by simp only [List.length_append, List.length_cons, List.length_nil, List.length_drop]; omega)]
theorem Draw18_j0 (l : List Int) (hl : ∀ x ∈ l, 0 ≤ x ∧ x ≤ 255) (n a s : Int) (n0 : 0 ≤ n) (hn : n ≤ 13) (h0 : 0 ≤ a) (h1 : a ≤ 1000000000) : EvP (fun k => spec_l18Draw.j0 k n l a s) (fun r => r.1.length ≤ 13 ∧ a ≤ r.2.1 ∧ r.2.1 ≤ a + 100) := by
  obtain ⟨P, ⟨p1, p2, p3⟩, p4⟩ := Perm_l l hl n (by omega) n.toNat 0 a s [] (by omega) (by omega) rfl h0 (by omega)
  by_cases c : n > 0
  · obtain ⟨b, a', s', hb, g1, g2⟩ := One_ l hl P.2.1 P.2.2 12 (by omega) (by omega)
    cases b with
    | false =>
      refine ⟨(P.1, a', s'), ⟨by show P.1.length ≤ 13; omega, by show a ≤ a'; omega, by show a' ≤ a + 100; omega⟩, Ev.step (h := fun k => (spec_l18Perm.f k l a s n).bind fun t => if n > 0 then ((spec_l00Src_one.f l t.2.1 t.2.2 12).bind fun u => if u.1 = true then ((spec_l00Src_among.f l u.2.1 u.2.2 [-1, 0, wrap64 (n - 1), n, -9223372036854775808]).bind fun v => if 0 < (t.1.length : Int) then some (t.1.set (0 : Int).toNat v.1, v.2.1, v.2.2) else none) else some (t.1, u.2.1, u.2.2)) else some (t.1, t.2.1, t.2.2)) (fun k => rfl) (Ev.bind p4 ⟨0, fun k _ => ?_⟩)⟩
      show (if n > 0 then ((spec_l00Src_one.f l P.2.1 P.2.2 12).bind fun u => if u.1 = true then ((spec_l00Src_among.f l u.2.1 u.2.2 [-1, 0, wrap64 (n - 1), n, -9223372036854775808]).bind fun v => if 0 < (P.1.length : Int) then some (P.1.set (0 : Int).toNat v.1, v.2.1, v.2.2) else none) else some (P.1, u.2.1, u.2.2)) else some (P.1, P.2.1, P.2.2)) = _
      rw [if_pos c, hb]; rfl
    | true =>
      obtain ⟨u, a2, s2, hu, q1, q2, _⟩ := Among_ l hl a' s' [-1, 0, wrap64 (n - 1), n, -9223372036854775808] (by simp) (by omega) (by omega)
      refine ⟨(P.1.set (0 : Int).toNat u, a2, s2), ⟨by show (P.1.set (0 : Int).toNat u).length ≤ 13; rw [List.length_set]; omega, by show a ≤ a2; omega, by show a2 ≤ a + 100; omega⟩, Ev.step (h := fun k => (spec_l18Perm.f k l a s n).bind fun t => if n > 0 then ((spec_l00Src_one.f l t.2.1 t.2.2 12).bind fun u => if u.1 = true then ((spec_l00Src_among.f l u.2.1 u.2.2 [-1, 0, wrap64 (n - 1), n, -9223372036854775808]).bind fun v => if 0 < (t.1.length : Int) then some (t.1.set (0 : Int).toNat v.1, v.2.1, v.2.2) else none) else some (t.1, u.2.1, u.2.2)) else some (t.1, t.2.1, t.2.2)) (fun k => rfl) (Ev.bind p4 ⟨0, fun k _ => ?_⟩)⟩
      show (if n > 0 then ((spec_l00Src_one.f l P.2.1 P.2.2 12).bind fun u => if u.1 = true then ((spec_l00Src_among.f l u.2.1 u.2.2 [-1, 0, wrap64 (n - 1), n, -9223372036854775808]).bind fun v => if 0 < (P.1.length : Int) then some (P.1.set (0 : Int).toNat v.1, v.2.1, v.2.2) else none) else some (P.1, u.2.1, u.2.2)) else some (P.1, P.2.1, P.2.2)) = _
      rw [if_pos c, hb]; simp only [Option.bind_some, if_true]
      rw [hu]; simp only [Option.bind_some]
      rw [if_pos (by omega)]
  · refine ⟨(P.1, P.2.1, P.2.2), ⟨by show P.1.length ≤ 13; omega, by show a ≤ P.2.1; omega, by show P.2.1 ≤ a + 100; omega⟩, Ev.step (h := fun k => (spec_l18Perm.f k l a s n).bind fun t => if n > 0 then ((spec_l00Src_one.f l t.2.1 t.2.2 12).bind fun u => if u.1 = true then ((spec_l00Src_among.f l u.2.1 u.2.2 [-1, 0, wrap64 (n - 1), n, -9223372036854775808]).bind fun v => if 0 < (t.1.length : Int) then some (t.1.set (0 : Int).toNat v.1, v.2.1, v.2.2) else none) else some (t.1, u.2.1, u.2.2)) else some (t.1, t.2.1, t.2.2)) (fun k => rfl) (Ev.bind p4 ⟨0, fun k _ => ?_⟩)⟩
    exact if_neg c
theorem Draw18_ (l : List Int) (hl : ∀ x ∈ l, 0 ≤ x ∧ x ≤ 255) (a s : Int) (h0 : 0 ≤ a) (h1 : a ≤ 100000000) : EvP (fun k => spec_l18Draw.f k l a s) (fun r => r.1.length ≤ 13 ∧ a ≤ r.2.1 ∧ r.2.1 ≤ a + 1000) := by
  obtain ⟨v, a1, s1, hv, g1, g2, g3, g4, g5, g6⟩ := Pick_ l hl a s 7 h0 (by omega)
  obtain ⟨b, a2, s2, hb, q1, q2⟩ := One_ l hl a1 s1 12 (by omega) (by omega)
  have := g5 (by omega)
  cases b with
  | false =>
    obtain ⟨R, ⟨r1, r2, r3⟩, r4⟩ := Draw18_j0 l hl (2 + v) a2 s2 (by omega) (by omega) (by omega) (by omega)
    refine ⟨R, ⟨r1, by omega, by omega⟩, Ev.eq (fun k => ?_) r4⟩
    unfold spec_l18Draw.f
    rw [hv]; simp only [Option.bind_some]
    rw [hb]; simp only [Option.bind_some, Bool.false_eq_true, if_false]
    rw [w64 (n := 2 + v) (by omega) (by omega)]
  | true =>
    obtain ⟨u, a3, s3, hu, p1, p2, p3⟩ := Among_ l hl a2 s2 [0, 1, 2, 12, 13] (by simp) (by omega) (by omega)
    have hu2 : 0 ≤ u ∧ u ≤ 13 := by
      simp only [List.mem_cons, List.mem_nil_iff, or_false] at p3
      rcases p3 with rfl | rfl | rfl | rfl | rfl <;> omega
    obtain ⟨R, ⟨r1, r2, r3⟩, r4⟩ := Draw18_j0 l hl u a3 s3 hu2.1 hu2.2 (by omega) (by omega)
    refine ⟨R, ⟨r1, by omega, by omega⟩, Ev.eq (fun k => ?_) r4⟩
    unfold spec_l18Draw.f
    rw [hv]; simp only [Option.bind_some]
    rw [hb]; simp only [Option.bind_some, if_true]
    rw [hu]; rfl

theorem floorDiv_ (a b : Int) (hb : 0 < b) (ha : -4611686018427387904 ≤ a) (ha2 : a ≤ 4611686018427387904) : impl_floorDiv.f a b = some (a / b) := by
  unfold impl_floorDiv.f
  rw [if_neg (by omega)]
  obtain ⟨h1, h2⟩ := ediv_bounds a b 4611686018427387904 hb ha ha2 (by omega)
  have e := floor_eq a b hb
  by_cases c : Int.tmod a b < 0
  · rw [if_pos c] at e ⊢; rw [w64 (n := Int.tdiv a b) (by omega) (by omega), w64 (by omega) (by omega), e]
  · rw [if_neg c] at e ⊢; rw [w64 (by omega) (by omega), e]

theorem ceilDiv_ (a b : Int) (hb : 0 < b) (ha : 0 ≤ a) (ha2 : a ≤ 1000000000) : impl_ceilDiv.f a b = some (-((-a) / b)) := by
  unfold impl_ceilDiv.f
  obtain ⟨h1, h2⟩ := ediv_bounds (-a) b 1000000000 hb (by omega) (by omega) (by omega)
  rw [w64 (n := -a) (by omega) (by omega), floorDiv_ _ _ hb (by omega) (by omega)]; simp only [Option.bind_some]
  rw [w64 (by omega) (by omega)]

theorem hands_l (a b c : Int) (ha : 1 ≤ a) (ha2 : a ≤ 48) : ∀ (k : Nat) (i : Int), 1 ≤ i → i ≤ 5 → impl_HandsFor.l0 k a b c i = spec_HandsFor.l0 k a b c i
  | 0, _, _, _ => rfl
  | k + 1, i, h1, h2 => by
    simp only [impl_HandsFor.l0, spec_HandsFor.l0]
    by_cases h : i ≤ 4
    · rw [if_pos h, if_pos h, if_neg (show ¬ i = 0 by omega), ceilDiv_ _ _ (by omega) (by omega) (by omega)]; simp only [Option.bind_some]
      have e : wrap64 (Int.tdiv (wrap64 ((wrap64 (a + i)) - 1)) i) = -((-a) / i) := by
        rw [w64 (n := a + i) (by omega) (by omega), w64 (n := a + i - 1) (by omega) (by omega), Int.tdiv_eq_ediv_of_nonneg (by omega)]
        have hi : i = 1 ∨ i = 2 ∨ i = 3 ∨ i = 4 := by omega
        rcases hi with rfl | rfl | rfl | rfl <;> (rw [w64 (by omega) (by omega)]; omega)
      rw [e, w64 (n := i + 1) (by omega) (by omega), hands_l a b c ha ha2 k (i + 1) (by omega) (by omega)]
    · rw [if_neg h, if_neg h]

theorem spec_hands_l (a b c : Int) : ∀ (d k : Nat) (i : Int), 5 - i = d → 1 ≤ i → d < k → ∃ r, spec_HandsFor.l0 k a b c i = some r := by
  intro d
  induction d with
  | zero =>
    intro k i hd h0 hk
    obtain ⟨k, rfl⟩ : ∃ m, k = m + 1 := ⟨k - 1, by omega⟩
    exact ⟨(0, 3), by simp only [spec_HandsFor.l0]; rw [if_neg (by omega)]⟩
  | succ d ih =>
    intro k i hd h0 hk
    obtain ⟨k, rfl⟩ : ∃ m, k = m + 1 := ⟨k - 1, by omega⟩
    simp only [spec_HandsFor.l0]
    rw [if_pos (by omega), if_neg (show ¬ i = 0 by omega), w64 (n := i + 1) (by omega) (by omega)]
    by_cases g : (wrap64 ((wrap64 (Int.tdiv (wrap64 ((wrap64 (a + i)) - 1)) i)) * b)) ≤ c
    · rw [if_pos g]; exact ⟨_, rfl⟩
    · rw [if_neg g]; exact ih k (i + 1) (by omega) (by omega) (by omega)

theorem Hands_ (a b c : Int) : ∃ r, spec_HandsFor.f 10 a b c = some r ∧ impl_HandsFor.f 10 a b c = some r := by
  unfold spec_HandsFor.f impl_HandsFor.f
  rw [In_, In_, In_, within_, within_, within_]; simp only [Option.bind_some, decide_eq_true_eq]
  by_cases h1 : 1 ≤ a ∧ a ≤ 48
  · rw [if_pos h1, if_pos h1]
    by_cases h2 : 1 ≤ b ∧ b ≤ 1000
    · rw [if_pos h2, if_pos h2]; simp only [impl_HandsFor.j0, spec_HandsFor.j0]
      by_cases h3 : 0 ≤ c ∧ c ≤ 1000000
      · rw [if_neg (by simp [h3]), if_neg (by simp [h3])]
        obtain ⟨r, hr⟩ := spec_hands_l a b c 4 9 1 (by omega) (by omega) (by omega)
        exact ⟨r, hr, (hands_l a b c h1.1 h1.2 9 1 (by omega) (by omega)).trans hr⟩
      · rw [if_pos (by simp; omega), if_pos (by simp; omega)]; exact ⟨_, rfl, rfl⟩
    · rw [if_neg h2, if_neg h2]; simp only [impl_HandsFor.j0, spec_HandsFor.j0, if_true]; exact ⟨_, rfl, rfl⟩
  · rw [if_neg h1, if_neg h1]; simp only [impl_HandsFor.j0, spec_HandsFor.j0, if_true]; exact ⟨_, rfl, rfl⟩

def okS (l : List Int) : Bool := decide (2 ≤ (l.length : Int) ∧ (l.length : Int) ≤ 24) && l.all fun x => decide (-1000 ≤ x ∧ x ≤ 1000)
theorem okS_says {l : List Int} (h : okS l = true) : 2 ≤ l.length ∧ l.length ≤ 24 ∧ (∀ x ∈ l, -1000 ≤ x ∧ x ≤ 1000) ∧ ∀ i : Int, 0 ≤ i → i < l.length → -1000 ≤ rd l i ∧ rd l i ≤ 1000 := by
  unfold okS at h
  simp only [Bool.and_eq_true, decide_eq_true_eq, List.all_eq_true] at h
  exact ⟨by omega, by omega, h.2, fun i h0 h1 => h.2 _ (rd_in l i h0 h1)⟩

/-- Shares of a sum: the greater ones first. -/
def share (s n i : Int) : Int := if i < s - s / n * n then s / n + 1 else s / n
theorem share_div (s n : Int) (h : 1 ≤ n) : 0 ≤ s - s / n * n ∧ s - s / n * n < n := by
  have a := Int.ediv_mul_le s (b := n) (by omega)
  have b := Int.lt_ediv_add_one_mul_self s (b := n) (by omega)
  rw [Int.add_mul, Int.one_mul] at b
  omega

theorem spec_gores_l (s n : Int) (hn : 1 ≤ n) (hn2 : n ≤ 4) (hs : 1 ≤ s) (hs2 : s ≤ 48) : ∀ (d k : Nat) (i : Int) (a : List Int), n - i = d → 0 ≤ i → (a.length : Int) ≤ i → d < k → spec_ShareGores.l0 k s n a i = some (a ++ from_ (share s n) i d, 0) := by
  have hb := share_div s n hn
  have hq := ediv_bounds s n 100000 (by omega) (by omega) (by omega) (by omega)
  have hm : Int.tmod s n = s - s / n * n := by
    rw [Int.tmod_eq_emod_of_nonneg (by omega), Int.emod_def, Int.mul_comm]
  intro d
  induction d with
  | zero =>
    intro k i a hd h0 ha hk
    obtain ⟨k, rfl⟩ : ∃ m, k = m + 1 := ⟨k - 1, by omega⟩
    simp only [spec_ShareGores.l0]; rw [if_neg (by omega)]; simp [from_]
  | succ d ih =>
    intro k i a hd h0 ha hk
    obtain ⟨k, rfl⟩ : ∃ m, k = m + 1 := ⟨k - 1, by omega⟩
    simp only [spec_ShareGores.l0]
    rw [if_pos (show i < n by omega), if_neg (show ¬ n = 0 by omega), hm, Int.tdiv_eq_ediv_of_nonneg (by omega), w64 (n := s / n) (by omega) (by omega), w64 (n := s / n + 1) (by omega) (by omega), w64 (n := i + 1) (by omega) (by omega), from_succ]
    by_cases c : i < s - s / n * n
    · rw [if_pos c, if_pos (by omega), ih k (i + 1) _ (by omega) (by omega) (by simp; omega) (by omega)]; simp [share, c]
    · rw [if_neg c, if_pos (by omega), ih k (i + 1) _ (by omega) (by omega) (by simp; omega) (by omega)]; simp [share, c]
def goresR (a b : Int) : List Int × Int := if (1 ≤ a ∧ a ≤ 48) ∧ (1 ≤ b ∧ b ≤ 4) then (from_ (share a b) 0 b.toNat, 0) else ([], 2)
theorem SpecGores_ (a b : Int) (k : Nat) (hk : 10 ≤ k) : spec_ShareGores.f k a b = some (goresR a b) := by
  obtain ⟨k, rfl⟩ : ∃ m, k = m + 1 := ⟨k - 1, by omega⟩
  unfold spec_ShareGores.f goresR
  rw [In_, In_]; simp only [Option.bind_some, decide_eq_true_eq]
  by_cases h1 : 1 ≤ a ∧ a ≤ 48
  · rw [if_pos h1]; simp only [spec_ShareGores.j0]
    by_cases h2 : 1 ≤ b ∧ b ≤ 4
    · rw [if_neg (by simp [h2]), if_pos ⟨h1, h2⟩, spec_gores_l a b h2.1 h2.2 h1.1 h1.2 b.toNat k 0 [] (by omega) (by omega) (by simp) (by omega)]; simp
    · rw [if_pos (by simp; omega), if_neg (by omega)]
  · rw [if_neg h1, if_neg (by omega)]; simp only [spec_ShareGores.j0, if_true]

theorem shares_l (s n : Int) (hn : 1 ≤ n) (hn2 : n ≤ 100) (hs : -100000 ≤ s) (hs2 : s ≤ 100000) : ∀ (d k : Nat) (i : Int) (a : List Int), n - i = d → 0 ≤ i → (a.length : Int) ≤ i → d < k → impl_shares.l0 k s n a n i = some (a ++ from_ (share s n) i d) := by
  have hb := share_div s n hn
  have hq := ediv_bounds s n 100000 (by omega) (by omega) (by omega) (by omega)
  intro d
  induction d with
  | zero =>
    intro k i a hd h0 ha hk
    obtain ⟨k, rfl⟩ : ∃ m, k = m + 1 := ⟨k - 1, by omega⟩
    simp only [impl_shares.l0]; rw [if_neg (by omega)]; simp [from_]
  | succ d ih =>
    intro k i a hd h0 ha hk
    obtain ⟨k, rfl⟩ : ∃ m, k = m + 1 := ⟨k - 1, by omega⟩
    simp only [impl_shares.l0]
    rw [if_pos (by omega), floorDiv_ _ _ (by omega) (by omega) (by omega)]; simp only [Option.bind_some]
    rw [w64 (n := s / n * n) (by omega) (by omega), w64 (n := s - s / n * n) (by omega) (by omega), w64 (n := s / n + 1) (by omega) (by omega), w64 (n := i + 1) (by omega) (by omega), from_succ]
    by_cases c : i < s - s / n * n
    · rw [if_pos c, if_pos (by omega), ih k (i + 1) _ (by omega) (by omega) (by simp; omega) (by omega)]; simp [share, c]
    · rw [if_neg c, if_pos (by omega), ih k (i + 1) _ (by omega) (by omega) (by simp; omega) (by omega)]; simp [share, c]

theorem ImplGores_ (a b : Int) (k : Nat) (hk : 10 ≤ k) : impl_ShareGores.f k a b = some (goresR a b) := by
  unfold impl_ShareGores.f goresR
  rw [within_, within_]; simp only [Option.bind_some, decide_eq_true_eq]
  by_cases h1 : 1 ≤ a ∧ a ≤ 48
  · rw [if_pos h1]
    by_cases h2 : 1 ≤ b ∧ b ≤ 4
    · rw [if_pos h2, if_pos ⟨h1, h2⟩]
      unfold impl_shares.f
      rw [shares_l a b (by omega) (by omega) (by omega) (by omega) b.toNat k 0 [] (by omega) (by omega) (by simp) (by omega)]; simp
    · rw [if_neg h2, if_neg (by omega)]
  · rw [if_neg h1, if_neg (by omega)]

theorem share_sum (s n : Int) : ∀ (d : Nat) (i : Int), (from_ (share s n) i d).sum = d * (s / n) + mn (mx (s - s / n * n - i) 0) d
  | 0, i => by simp [from_, mn, mx]; split <;> split <;> omega
  | d + 1, i => by
    rw [sum_from, share_sum s n d (i + 1)]
    have e : ((d + 1 : Nat) : Int) * (s / n) = (d : Int) * (s / n) + s / n := by rw [Int.natCast_add, Int.add_mul]; simp
    rw [e]
    generalize (d : Int) * (s / n) = q
    unfold share mn mx
    split <;> split <;> split <;> split <;> split <;> omega
theorem share_total (s n : Int) (h : 1 ≤ n) : (from_ (share s n) 0 n.toNat).sum = s := by
  rw [share_sum]
  have hb := share_div s n h
  have e : ((n.toNat : Nat) : Int) = n := by omega
  rw [e, Int.mul_comm n]
  unfold mn mx
  split <;> split <;> omega
theorem share_fall (s n i : Int) : share s n i ≤ share s n (i - 1) := by unfold share; split <;> split <;> omega
theorem share_near (s n i : Int) : share s n 0 - share s n i ≤ 1 := by unfold share; split <;> split <;> omega
theorem share_bounds (s n i B : Int) (h : 1 ≤ n) (h0 : 0 ≤ B) (h1 : -B ≤ s) (h2 : s ≤ B) : -B ≤ share s n i ∧ share s n i ≤ B + 1 := by
  have := ediv_bounds s n B (by omega) h1 h2 h0
  unfold share; split <;> omega

theorem f6ints_l (l : List Int) (hl : l.length ≤ 1152921504606846976) : ∀ (d k : Nat) (i : Int), (l.length : Int) - i = d → 0 ≤ i → d < k → laws_f6ints.l0 k l l i = some true := by
  intro d
  induction d with
  | zero =>
    intro k i hd h0 hk
    obtain ⟨k, rfl⟩ : ∃ m, k = m + 1 := ⟨k - 1, by omega⟩
    simp only [laws_f6ints.l0]; rw [if_neg (by omega)]
  | succ d ih =>
    intro k i hd h0 hk
    obtain ⟨k, rfl⟩ : ∃ m, k = m + 1 := ⟨k - 1, by omega⟩
    simp only [laws_f6ints.l0]
    rw [if_pos (by omega), if_pos h0, if_pos (by omega), if_pos trivial, w64 (by omega) (by omega)]
    exact ih k (i + 1) (by omega) (by omega) (by omega)
theorem f6ints_ (l : List Int) (hl : l.length ≤ 1152921504606846976) (k : Nat) (hk : l.length < k) : laws_f6ints.f k l l = some true := by
  unfold laws_f6ints.f
  rw [if_pos rfl]; exact f6ints_l l hl l.length k 0 (by omega) (by omega) hk

theorem f6abs_ (a : Int) (ha : -9223372036854775807 ≤ a) (ha2 : a ≤ 9223372036854775807) : laws_f6abs.f a = some (ab a) := by
  unfold laws_f6abs.f ab
  by_cases h : a < 0
  · rw [if_pos h, if_pos h, w64 (by omega) (by omega)]
  · rw [if_neg h, if_neg h]

theorem bytes_of {l : List Int} (h : ∀ x ∈ l, (Lit.int .u8 x).wf = true) : ∀ x ∈ l, 0 ≤ x ∧ x ≤ 255 := by
  intro x hx
  simpa [Lit.wf, IntKind.min, IntKind.max, IntKind.signed, IntKind.bits] using h x hx

theorem Time_ (l : List Int) (hl : ∀ x ∈ l, 0 ≤ x ∧ x ≤ 255) (a s : Int) (h0 : 0 ≤ a) (h1 : a ≤ 100000000) : ∃ v a' s', spec_l18Time.f l a s = some (v, a', s') ∧ a ≤ a' ∧ a' ≤ a + 4 := by
  obtain ⟨b, a1, s1, e1, g1, g2⟩ := One_ l hl a s 10 h0 (by omega)
  obtain ⟨u, a2, s2, hu, q1, q2, _⟩ := Among_ l hl a1 s1 [-1, 0, 1, 1000, 1001] (by simp) (by omega) (by omega)
  obtain ⟨v, a3, s3, hv, q3, q4, _⟩ := Pick_ l hl a1 s1 30 (by omega) (by omega)
  unfold spec_l18Time.f
  rw [e1]; simp only [Option.bind_some]
  cases b with
  | true => rw [if_pos rfl, hu]; exact ⟨u, a2, s2, rfl, by omega, by omega⟩
  | false => rw [if_neg (by simp), hv]; exact ⟨wrap64 (1 + v), a3, s3, rfl, by omega, by omega⟩
theorem DrawStarts_ (l : List Int) (hl : ∀ x ∈ l, 0 ≤ x ∧ x ≤ 255) : ∃ r : List Int × Int × Int, r.1.length ≤ 13 ∧ Ev (fun k => spec_DrawStartsOfPasting.f k l) r := by
  obtain ⟨R, ⟨r1, r2, r3⟩, r4⟩ := Draw18_ l hl 0 0 (by omega) (by omega)
  obtain ⟨v, a1, s1, e1, g1, g2⟩ := Time_ l hl R.2.1 R.2.2 (by omega) (by omega)
  obtain ⟨u, a2, s2, e2, g3, g4⟩ := Time_ l hl a1 s1 (by omega) (by omega)
  refine ⟨(R.1, v, u), r1, Ev.eq (h := fun k => (spec_l18Draw.f k l 0 0).bind fun t => (spec_l18Time.f l t.2.1 t.2.2).bind fun x => (spec_l18Time.f l x.2.1 x.2.2).bind fun y => some (t.1, x.1, y.1)) (fun k => ?_) (Ev.bind r4 ⟨0, fun k _ => ?_⟩)⟩
  · unfold spec_DrawStartsOfPasting.f spec_l18All.f
    rw [show spec_l00From.f l = some (l, 0, 0) from rfl]; simp only [Option.bind_some]
    cases spec_l18Draw.f k l 0 0 with
    | none => rfl
    | some t =>
      simp only [Option.bind_some]
      cases spec_l18Time.f l t.2.1 t.2.2 with
      | none => rfl
      | some x =>
        simp only [Option.bind_some]
        cases spec_l18Time.f l x.2.1 x.2.2 with
        | none => rfl
        | some y => rfl
  · show ((spec_l18Time.f l R.2.1 R.2.2).bind fun x => (spec_l18Time.f l x.2.1 x.2.2).bind fun y => some (R.1, x.1, y.1)) = _
    rw [e1]; simp only [Option.bind_some]; rw [e2]; rfl
theorem DrawQuick_ (l : List Int) (hl : ∀ x ∈ l, 0 ≤ x ∧ x ≤ 255) : ∃ r, spec_DrawQuickOrder.f l = some r := by
  obtain ⟨v, a1, s1, e1, g1, g2, _⟩ := Pick_ l hl 0 0 5 (by omega) (by omega)
  obtain ⟨b, a2, s2, e2, g3, g4⟩ := One_ l hl a1 s1 8 (by omega) (by omega)
  obtain ⟨u, a3, s3, hu, q1, q2, _⟩ := Among_ l hl a2 s2 [-1, 1, 2, 7, 8] (by simp) (by omega) (by omega)
  obtain ⟨t1, a4, s4, f1, g5, g6⟩ := Time_ l hl a3 s3 (by omega) (by omega)
  obtain ⟨t2, a5, s5, f2, _, _⟩ := Time_ l hl a4 s4 (by omega) (by omega)
  obtain ⟨t3, a6, s6, f3, g7, g8⟩ := Time_ l hl a2 s2 (by omega) (by omega)
  obtain ⟨t4, a7, s7, f4, _, _⟩ := Time_ l hl a6 s6 (by omega) (by omega)
  unfold spec_DrawQuickOrder.f
  rw [show spec_l00From.f l = some (l, 0, 0) from rfl]; simp only [Option.bind_some]
  rw [e1]; simp only [Option.bind_some]; rw [e2]; simp only [Option.bind_some]
  cases b with
  | true => rw [if_pos rfl, hu]; simp only [Option.bind_some]; rw [f1]; simp only [Option.bind_some]; rw [f2]; exact ⟨_, rfl⟩
  | false => rw [if_neg (by simp), f3]; simp only [Option.bind_some]; rw [f4]; exact ⟨_, rfl⟩
theorem hands_j0 (l : List Int) (hl : ∀ x ∈ l, 0 ≤ x ∧ x ≤ 255) (x a s : Int) (h0 : 0 ≤ a) (h1 : a ≤ 1000000) : ∃ r, ∀ k, spec_DrawHandsFor.j0 (k + 1) x l a s = some r := by
  obtain ⟨t1, a1, s1, f1, g1, g2⟩ := Time_ l hl a s h0 (by omega)
  obtain ⟨b, a2, s2, e2, g3, g4⟩ := One_ l hl a1 s1 8 (by omega) (by omega)
  obtain ⟨u, a3, s3, hu, _⟩ := Among_ l hl a2 s2 [-1, 0, 1000000, 1000001] (by simp) (by omega) (by omega)
  obtain ⟨v, a4, s4, hv, _⟩ := Pick_ l hl a2 s2 400 (by omega) (by omega)
  cases b with
  | true => exact ⟨_, fun k => by simp only [spec_DrawHandsFor.j0]; rw [f1]; simp only [Option.bind_some]; rw [e2]; simp only [Option.bind_some, if_true]; rw [hu]; rfl⟩
  | false => exact ⟨_, fun k => by simp only [spec_DrawHandsFor.j0]; rw [f1]; simp only [Option.bind_some]; rw [e2]; simp only [Option.bind_some, Bool.false_eq_true, if_false]; rw [hv]; rfl⟩
theorem DrawHands_ (l : List Int) (hl : ∀ x ∈ l, 0 ≤ x ∧ x ≤ 255) : ∃ r, ∀ k, spec_DrawHandsFor.f (k + 1) l = some r := by
  obtain ⟨v, a1, s1, e1, g1, g2, _⟩ := Pick_ l hl 0 0 24 (by omega) (by omega)
  obtain ⟨b, a2, s2, e2, g3, g4⟩ := One_ l hl a1 s1 8 (by omega) (by omega)
  obtain ⟨u, a3, s3, hu, q1, q2, _⟩ := Among_ l hl a2 s2 [-1, 0, 1, 48, 49] (by simp) (by omega) (by omega)
  cases b with
  | true =>
    obtain ⟨r, hr⟩ := hands_j0 l hl u a3 s3 (by omega) (by omega)
    refine ⟨r, fun k => ?_⟩
    unfold spec_DrawHandsFor.f
    rw [show spec_l00From.f l = some (l, 0, 0) from rfl]; simp only [Option.bind_some]
    rw [e1]; simp only [Option.bind_some]; rw [e2]; simp only [Option.bind_some, if_true]; rw [hu]; exact hr k
  | false =>
    obtain ⟨r, hr⟩ := hands_j0 l hl (wrap64 (1 + v)) a2 s2 (by omega) (by omega)
    refine ⟨r, fun k => ?_⟩
    unfold spec_DrawHandsFor.f
    rw [show spec_l00From.f l = some (l, 0, 0) from rfl]; simp only [Option.bind_some]
    rw [e1]; simp only [Option.bind_some]; rw [e2]; exact hr k
theorem DrawShare_ (l : List Int) (hl : ∀ x ∈ l, 0 ≤ x ∧ x ≤ 255) : ∃ r, ∀ k, spec_DrawShareGores.f (k + 1) l = some r := by
  obtain ⟨r, hr⟩ := DrawHands_ l hl
  obtain ⟨v, a1, s1, e1, _⟩ := Pick_ l hl 0 0 6 (by omega) (by omega)
  refine ⟨(r.1, v), fun k => ?_⟩
  unfold spec_DrawShareGores.f
  rw [hr k]; simp only [Option.bind_some]
  rw [show spec_l00From.f l = some (l, 0, 0) from rfl]; simp only [Option.bind_some]
  rw [e1]; rfl
theorem upto_k {α : Type} (g : Nat → Option α) (hm : ∀ k, LeO (g k) (g (k + 1))) (K : Nat) (r : α) (h : g K = some r) : ∀ k, K ≤ k → g k = some r := by
  intro k hk
  obtain ⟨d, rfl⟩ : ∃ d, k = K + d := ⟨k - K, by omega⟩
  clear hk
  induction d with
  | zero => exact h
  | succ d ih => exact hm _ _ ih
theorem f6sum_l (l : List Int) (hl : l.length ≤ 1000) (hb : ∀ x ∈ l, 0 ≤ x ∧ x ≤ 1000) : ∀ (d i : Nat) (a : Int) (k : Nat), l.length - i = d → i ≤ l.length → 0 ≤ a → a ≤ 1000 * i → d < k → laws_f6sum.l0 k l a (i : Int) = some (a + (l.drop i).sum) := by
  intro d
  induction d with
  | zero =>
    intro i a k hd hi h0 h1 hk
    obtain ⟨k, rfl⟩ : ∃ m, k = m + 1 := ⟨k - 1, by omega⟩
    simp only [laws_f6sum.l0]
    rw [if_neg (by omega), List.drop_eq_nil_of_le (by omega)]; simp
  | succ d ih =>
    intro i a k hd hi h0 h1 hk
    obtain ⟨k, rfl⟩ : ∃ m, k = m + 1 := ⟨k - 1, by omega⟩
    have hlt : i < l.length := by omega
    have hdr : l.drop i = rd l (i : Int) :: l.drop (i + 1) := by rw [rd_get l i hlt]; exact List.drop_eq_getElem_cons hlt
    have hx := hb _ (rd_in' l i hlt)
    simp only [laws_f6sum.l0]
    rw [if_pos (by omega), if_pos (by omega), w64 (n := a + rd l (i : Int)) (by omega) (by omega), w64 (n := (i : Int) + 1) (by omega) (by omega)]
    have := ih (i + 1) (a + rd l (i : Int)) k (by omega) (by omega) (by omega) (by omega) (by omega)
    rw [hdr, List.sum_cons]
    rw [show ((i : Int) + 1) = ((i + 1 : Nat) : Int) by omega, this]
    congr 1; omega
theorem from_in (f : Int → Int) (d : Nat) (i : Int) (x : Int) (hx : x ∈ from_ f i d) : ∃ j, x = f j := by
  unfold from_ at hx
  obtain ⟨j, _, rfl⟩ := List.mem_map.1 hx
  exact ⟨_, rfl⟩
theorem paste_l0 (a b : Int) (a0 : 1 ≤ a) (a1 : a ≤ 1000) (b0 : 0 ≤ b) (b1 : b ≤ 1000) (r : List Int) (v : Int) (n : Nat) (hr : r.length = n) (n2 : 2 ≤ n) (n12 : n ≤ 12) (h1 : ∀ x : Int, 0 ≤ x → x < n → 0 ≤ rd r x ∧ rd r x ≤ 100000 ∧ rd r x + a + b ≤ v) (h2 : ∀ x : Int, 0 ≤ x → x < n → rd r x ≠ rd r (Int.tmod (x + 1) n) → a + b ≤ rd r x - rd r (Int.tmod (x + 1) n) ∨ a + b ≤ rd r (Int.tmod (x + 1) n) - rd r x) : ∀ (d i k : Nat), n - i = d → i ≤ n → 2 * d + 2 < k → laws_FnPasting.l0 k a b r v (n : Int) (i : Int) = some true := by
  intro d
  induction d with
  | zero =>
    intro i k hd hi hk
    obtain ⟨k, rfl⟩ : ∃ m, k = m + 1 := ⟨k - 1, by omega⟩
    simp only [laws_FnPasting.l0]
    rw [if_neg (by omega)]
  | succ d ih =>
    intro i k hd hi hk
    obtain ⟨k, rfl⟩ : ∃ m, k = m + 1 + 1 := ⟨k - 2, by omega⟩
    have ht := tmod_in ((i : Int) + 1) (n : Int) (by omega) (by omega)
    have x1 := h1 (i : Int) (by omega) (by omega)
    have x2 := h1 _ ht.1 ht.2
    have hn := ih (i + 1) k (by omega) (by omega) (by omega)
    have j5 : laws_FnPasting.j5 (k + 1) a b r v (n : Int) (i : Int) (rd r (i : Int)) false = some true := by
      simp only [laws_FnPasting.j5, Bool.false_eq_true, if_false]
      rw [if_neg (by omega), w64 (n := rd r (i : Int) + a) (by omega) (by omega), w64 (n := rd r (i : Int) + a + b) (by omega) (by omega), if_neg (by omega), w64 (n := (i : Int) + 1) (by omega) (by omega)]
      exact hn
    simp only [laws_FnPasting.l0]
    rw [if_pos (by omega), if_pos (by omega), if_pos (by omega), if_neg (by omega), w64 (n := (i : Int) + 1) (by omega) (by omega), if_pos ht.1, if_pos (by omega), if_pos (by omega)]
    by_cases c : rd r (i : Int) = rd r (Int.tmod ((i : Int) + 1) n)
    · rw [if_pos c]; exact j5
    · have := h2 (i : Int) (by omega) (by omega) c
      rw [if_neg c, w64 (n := rd r (i : Int) - rd r (Int.tmod ((i : Int) + 1) n)) (by omega) (by omega), f6abs_ _ (by omega) (by omega)]; simp only [Option.bind_some]
      rw [w64 (n := a + b) (by omega) (by omega), show decide (ab (rd r (i : Int) - rd r (Int.tmod ((i : Int) + 1) n)) < a + b) = false from decide_eq_false (by unfold ab; split <;> omega)]
      exact j5
theorem FnPasting : laws_FnPasting.Pure := by
  intro l _ _ hl
  have hl := bytes_of hl
  by_cases hb : (l.length : Int) > 4096
  · exact ⟨0, by
      unfold laws_FnPasting.f
      rw [show laws_f6big.f l = some (decide ((l.length : Int) > 4096)) from rfl, decide_eq_true hb]; rfl⟩
  obtain ⟨⟨o, a, b⟩, ho, K1, e1⟩ := DrawStarts_ l hl
  obtain ⟨⟨n, e, d⟩, e2⟩ := DrawQuick_ l hl
  obtain ⟨⟨ha, hb2, hc⟩, e3⟩ := DrawHands_ l hl
  obtain ⟨⟨f, g⟩, e4⟩ := DrawShare_ l hl
  obtain ⟨H, h1, h2⟩ := Hands_ ha hb2 hc
  have h1 := upto_k (fun k => spec_HandsFor.f k ha hb2 hc) (fun k => spec_HandsFor.mono _ _ _ k) 10 H h1
  have h2 := upto_k (fun k => impl_HandsFor.f k ha hb2 hc) (fun k => impl_HandsFor.mono _ _ _ k) 10 H h2
  dsimp only at ho e1 e3 e4 h1 h2
  -- starts and end of the drawn order
  obtain ⟨r, hrE, hr0⟩ : ∃ r : List Int, (codeW o a b = 0 → Ev (fun k => spec_l18Starts.f k o a b) r ∧ Ev (fun k => impl_startsOfPasting.f k o a b) r ∧ r.length = o.length ∧ (∀ x : Int, 0 ≤ x → x < o.length → 0 ≤ rd r x ∧ rd r x ≤ 100000 ∧ rd r x + a + b ≤ endV a b o) ∧ ∀ x : Int, 0 ≤ x → x < o.length → rd r x ≠ rd r (Int.tmod (x + 1) o.length) → a + b ≤ rd r x - rd r (Int.tmod (x + 1) o.length) ∨ a + b ≤ rd r (Int.tmod (x + 1) o.length) - rd r x) ∧ (codeW o a b ≠ 0 → r = []) := by
    by_cases c : codeW o a b = 0
    · obtain ⟨k0, w1, w2⟩ := codeW_0 c
      obtain ⟨r, q⟩ := Paste_ k0 a b w1.1 w1.2 w2.1 w2.2
      exact ⟨r, fun _ => q, fun z => absurd c z⟩
    · exact ⟨[], fun z => absurd z c, fun _ => rfl⟩
  obtain ⟨⟨K3, e5⟩, ⟨K4, e6⟩⟩ := StartsE_ o (by omega) a b r (fun c => ⟨(hrE c).1, (hrE c).2.1⟩) hr0
  have hend : ∀ (o : List Int) (a b : Int), o.length ≤ 1048576 → Ev (fun k => spec_EndOfPasting.f k o a b) ((if codeW o a b = 0 then endV a b o else 0), codeW o a b) ∧ Ev (fun k => impl_EndOfPasting.f k o a b) ((if codeW o a b = 0 then endV a b o else 0), codeW o a b) := by
    intro o a b hlo
    refine EndE_ o hlo a b _ (fun c => ?_) (fun c => if_neg c)
    obtain ⟨k0, w1, w2⟩ := codeW_0 c
    rw [if_pos c]
    exact (endV_ k0 a b w1.1 w1.2 w2.1 w2.2).2.2
  obtain ⟨⟨K5, e7⟩, ⟨K6, e8⟩⟩ := hend o a b (by omega)
  obtain ⟨⟨K7, e9⟩, ⟨K8, e10⟩⟩ := QuickR_ n e d
  obtain ⟨q, hq⟩ : ∃ q, q = quickR n e d := ⟨_, rfl⟩
  have hql := QuickR_len n e d
  have hqm := quick_least n e d
  rw [← hq] at e9 e10 hql hqm
  obtain ⟨⟨K9, e11⟩, ⟨K10, e12⟩⟩ := hend q.1 e d (by omega)
  have hrl : r.length ≤ 1048576 := by
    by_cases c : codeW o a b = 0
    · rw [(hrE c).2.2.1]; omega
    · rw [hr0 c]; simp
  have hgl : (goresR f g).1.length ≤ 10 := by
    unfold goresR; split
    · simp only [from_len]; omega
    · simp
  dsimp only at e5 e6 e7 e8 e9 e10 e11 e12
  refine ⟨3000000 + (K1 + K3 + K4 + K5 + K6 + K7 + K8 + K9 + K10), ?_⟩
  generalize hk : 3000000 + (K1 + K3 + K4 + K5 + K6 + K7 + K8 + K9 + K10) = k
  obtain ⟨kk, hkk⟩ : ∃ m, k = m + 1 := ⟨k - 1, by omega⟩
  -- the law's last rounds
  have j3 : ∀ m, 1000 ≤ m → laws_FnPasting.j3 m o a b (codeW o a b) r (if codeW o a b = 0 then endV a b o else 0) = some true := by
    intro m hm
    obtain ⟨m, rfl⟩ : ∃ z, m = z + 1 := ⟨m - 1, by omega⟩
    simp only [laws_FnPasting.j3]
    by_cases c : codeW o a b = 0
    · obtain ⟨k0, w1, w2⟩ := codeW_0 c
      obtain ⟨o1, o2, _, _⟩ := (okO_iff o).1 k0
      rw [if_pos c, if_pos c]
      exact paste_l0 a b w1.1 w1.2 w2.1 w2.2 r _ o.length (hrE c).2.2.1 o1 o2 (hrE c).2.2.2.1 (hrE c).2.2.2.2 o.length 0 m rfl (by omega) (by omega)
    · rw [if_neg c]
  have j2 : ∀ m, 1100 ≤ m → q.2.2 = 0 → laws_FnPasting.j2 m o a b (codeW o a b) r (if codeW o a b = 0 then endV a b o else 0) n e d q.2.1 false = some true := by
    intro m hm hz
    obtain ⟨m, rfl⟩ : ∃ z, m = z + 1 := ⟨m - 1, by omega⟩
    simp only [laws_FnPasting.j2, Bool.false_eq_true, if_false]
    have hj := j3 m (by omega)
    by_cases c : codeW o a b = 0
    · rw [if_pos c]
      by_cases c1 : (o.length : Int) = n
      · rw [if_pos c1]
        by_cases c2 : a = e
        · rw [if_pos c2]
          by_cases c3 : b = d
          · rw [if_pos c3]
            obtain ⟨k0, _⟩ := codeW_0 c
            have := (hqm hz).2.2.2.2.2 o k0 c1
            rw [if_neg (by rw [if_pos c, c2, c3]; omega)]; exact hj
          · rw [if_neg c3]; exact hj
        · rw [if_neg c2]; exact hj
      · rw [if_neg c1]; exact hj
    · rw [if_neg c]; exact hj
  have j1 : ∀ m, 1200 + (K9 + K10) ≤ m → laws_FnPasting.j1 m o a b (codeW o a b) r (if codeW o a b = 0 then endV a b o else 0) n e d q.1 q.2.2 q.2.1 false = some true := by
    intro m hm
    obtain ⟨m, rfl⟩ : ∃ z, m = z + 1 := ⟨m - 1, by omega⟩
    simp only [laws_FnPasting.j1, Bool.false_eq_true, if_false]
    by_cases c : q.2.2 = 0
    · obtain ⟨m1, m2, m3, m4, m5, m6⟩ := hqm c
      have hc0 : codeW q.1 e d = 0 := by unfold codeW; rw [if_pos m3, if_pos m2]
      rw [if_pos c, e12 m (by omega)]; simp only [Option.bind_some]
      rw [if_pos hc0, if_pos hc0, m5, bne_self_eq_false, ← m5]
      exact j2 m (by omega) c
    · rw [if_neg c]; exact j3 m (by omega)
  have j0 : ∀ m, 1300 + (K9 + K10) ≤ m → laws_FnPasting.j0 m o a b (codeW o a b) r (if codeW o a b = 0 then endV a b o else 0) n e d q.1 q.2.2 q.2.1 f g (goresR f g).2 (goresR f g).1 false = some true := by
    intro m hm
    obtain ⟨m, rfl⟩ : ∃ z, m = z + 1 := ⟨m - 1, by omega⟩
    simp only [laws_FnPasting.j0, Bool.false_eq_true, if_false]
    by_cases c : (1 ≤ f ∧ f ≤ 48) ∧ (1 ≤ g ∧ g ≤ 4)
    · unfold goresR
      rw [if_pos c, if_pos rfl]
      have hsum : laws_f6sum.f m (from_ (share f g) 0 g.toNat) = some f := by
        have := f6sum_l (from_ (share f g) 0 g.toNat) (by rw [from_len]; omega) (fun x hx => by
          obtain ⟨j, rfl⟩ := from_in _ _ _ _ hx
          have hb := share_bounds f g j 48 c.2.1 (by omega) (by omega) (by omega)
          have hq := Int.ediv_nonneg (show 0 ≤ f by omega) (show 0 ≤ g by omega)
          refine ⟨?_, by omega⟩
          unfold share; split <;> omega) g.toNat 0 0 m (by rw [from_len]; omega) (by omega) (by omega) (by omega) (by omega)
        rw [List.drop_zero, share_total f g c.2.1] at this
        show laws_f6sum.l0 m (from_ (share f g) 0 g.toNat) 0 ((0 : Nat) : Int) = some f
        rw [this, Int.zero_add]
      rw [hsum]; simp only [Option.bind_some, if_true]
      rw [show (((from_ (share f g) 0 g.toNat).length : Int) != g) = false from by rw [from_len]; simp; omega]
      exact j1 m (by omega)
    · unfold goresR
      rw [if_neg c, if_neg (by decide)]
      exact j1 m (by omega)
  unfold laws_FnPasting.f
  rw [show laws_f6big.f l = some (decide ((l.length : Int) > 4096)) from rfl, decide_eq_false hb]; simp only [Option.bind_some, Bool.false_eq_true, if_false]
  rw [e1 k (by omega)]; simp only [Option.bind_some]
  rw [e6 k (by omega)]; simp only [Option.bind_some]
  rw [e5 k (by omega)]; simp only [Option.bind_some]
  rw [e8 k (by omega)]; simp only [Option.bind_some]
  rw [e7 k (by omega)]; simp only [Option.bind_some]
  rw [e2]; simp only [Option.bind_some]
  rw [e10 k (by omega)]; simp only [Option.bind_some]
  rw [e9 k (by omega)]; simp only [Option.bind_some]
  rw [show spec_DrawHandsFor.f k l = some (ha, hb2, hc) from by rw [hkk]; exact e3 kk]; simp only [Option.bind_some]
  rw [h2 k (by omega)]; simp only [Option.bind_some]
  rw [h1 k (by omega)]; simp only [Option.bind_some]
  rw [show spec_DrawShareGores.f k l = some (f, g) from by rw [hkk]; exact e4 kk]; simp only [Option.bind_some]
  rw [ImplGores_ f g k (by omega)]; simp only [Option.bind_some]
  rw [SpecGores_ f g k (by omega)]; simp only [Option.bind_some, if_true]
  rw [f6ints_ r (by omega) k (by omega)]; simp only [Option.bind_some, if_true]
  rw [f6ints_ q.1 (by omega) k (by omega)]; simp only [Option.bind_some, if_true]
  rw [f6ints_ (goresR f g).1 (by omega) k (by omega)]; simp only [Option.bind_some, Bool.not_true]
  exact j0 k (by omega)

end Go.Proofs.Ytfpddpkloplpeaa.Pure
