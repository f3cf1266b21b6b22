/- For all lists the program's UpperAt answers as the reference's does and leaves its argument as it was. No condition. -/
import Derived.Test.YtfpddpkloplpeaaQFnExactUpperAtx3
import Derived.Test.YtfpddpkloplpeaaBase
namespace Go.Proofs.Ytfpddpkloplpeaa.Pure
open Go Go.RowKit Go.Proofs.Ytfpddpkloplpeaa.QFnExactUpperAt Go.Proofs.YtfpddpkloplpeaaW.PrintWords Go.Proofs.YtfpddpkloplpeaaW.PrintLast Go.Proofs.YtfpddpkloplpeaaW.PrintMore Go.Proofs.Ytfpddpkloplpeaa.Base
set_option linter.unusedVariables false
set_option linter.unusedSimpArgs false

/-- From some number of rounds on the answer is r. -/
def Ev {α : Type} (g : Nat → Option α) (r : α) : Prop := ∃ K, ∀ k, K ≤ k → g k = some r
theorem Ev.step {α : Type} {g h : Nat → Option α} {r : α} (e : ∀ k, g (k + 1) = h k) (hr : Ev h r) : Ev g r := by
  obtain ⟨K, hK⟩ := hr
  refine ⟨K + 1, fun k hk => ?_⟩
  obtain ⟨k, rfl⟩ : ∃ m, k = m + 1 := ⟨k - 1, by omega⟩
  rw [e]; exact hK k (by omega)
theorem Ev.now {α : Type} {g : Nat → Option α} {r : α} (e : ∀ k, g (k + 1) = some r) : Ev g r := Ev.step (h := fun _ => some r) e ⟨0, fun _ _ => rfl⟩
theorem Ev.bind {α β : Type} {c : Nat → Option α} {f : Nat → α → Option β} {t : α} {r : β} (hc : Ev c t) (hf : Ev (fun k => f k t) r) : Ev (fun k => (c k).bind (f k)) r := by
  obtain ⟨K, hK⟩ := hc
  obtain ⟨L, hL⟩ := hf
  exact ⟨K + L, fun k hk => by show (c k).bind (f k) = some r; rw [hK k (by omega)]; exact hL k (by omega)⟩
theorem Ev.eq {α : Type} {g h : Nat → Option α} {r : α} (e : ∀ k, g k = h k) (hr : Ev h r) : Ev g r := by
  obtain ⟨K, hK⟩ := hr
  exact ⟨K, fun k hk => by rw [e]; exact hK k hk⟩

theorem In_ (a b c : Int) : spec_l00In.f a b c = some (decide (b ≤ a ∧ a ≤ c)) := by
  unfold spec_l00In.f
  by_cases h : a ≥ b
  · rw [if_pos h]; simp [show b ≤ a from h]
  · rw [if_neg h]; simp [show ¬ b ≤ a from h]

theorem within_ (a b c : Int) : impl_within.f a b c = some (decide (b ≤ a ∧ a ≤ c)) := by
  unfold impl_within.f
  by_cases h : a ≥ b
  · rw [if_pos h]; simp [show b ≤ a from h]
  · rw [if_neg h]; simp [show ¬ b ≤ a from h]

/-- A valid order: each gore once. -/
def okO (l : List Int) : Bool := decide (2 ≤ l.length ∧ l.length ≤ 12 ∧ (∀ x ∈ l, 0 ≤ x ∧ x < l.length) ∧ l.Nodup)
theorem okO_iff (l : List Int) : okO l = true ↔ (2 ≤ l.length ∧ l.length ≤ 12 ∧ (∀ x ∈ l, 0 ≤ x ∧ x < l.length) ∧ l.Nodup) := by
  unfold okO; exact decide_eq_true_iff
theorem rd_get (l : List Int) (j : Nat) (h : j < l.length) : rd l (j : Int) = l[j] := by
  unfold rd; rw [Int.toNat_natCast, List.getD_eq_getElem?_getD, List.getElem?_eq_getElem h]; rfl
theorem nodup_rd (l : List Int) : l.Nodup ↔ ∀ j : Nat, j < l.length → rd l (j : Int) ∉ l.take j := by
  rw [List.nodup_iff_pairwise_ne, List.pairwise_iff_getElem]
  constructor
  · intro h j hj hm
    obtain ⟨i, hi, he⟩ := List.mem_take_iff_getElem.1 hm
    rw [rd_get l j hj] at he
    exact h i j (by omega) hj (by omega) he
  · intro h i j hi hj hij e
    refine h j hj (List.mem_take_iff_getElem.2 ⟨i, by omega, ?_⟩)
    rw [rd_get l j hj]; exact e
theorem has_l (l : List Int) (x : Int) (hl : l.length ≤ 1048576) : ∀ (d : Nat) (i : Nat), l.length - i = d → i ≤ l.length → ∀ r : Bool, (r = true ↔ x ∈ l.drop i) → Ev (fun k => spec_l00Has.l0 k l x (i : Int)) r := by
  intro d
  induction d with
  | zero =>
    intro i hd hi r hr
    have : r = false := by
      cases r with
      | false => rfl
      | true => have := hr.1 rfl; rw [List.drop_eq_nil_of_le (by omega)] at this; cases this
    subst this
    refine Ev.now (fun k => ?_)
    simp only [spec_l00Has.l0]
    rw [if_neg (by omega)]
  | succ d ih =>
    intro i hd hi r hr
    rw [List.drop_eq_getElem_cons (show i < l.length by omega), List.mem_cons] at hr
    have e : ∀ k, spec_l00Has.l0 (k + 1) l x (i : Int) = if rd l (i : Int) = x then some true else spec_l00Has.l0 k l x ((i + 1 : Nat) : Int) := by
      intro k
      simp only [spec_l00Has.l0]
      rw [if_pos (by omega), if_pos (by omega), w64 (n := (i : Int) + 1) (by omega) (by omega)]; rfl
    have hg := rd_get l i (by omega)
    by_cases q : rd l (i : Int) = x
    · have : r = true := hr.2 (.inl (by rw [← q, hg]))
      subst this
      exact Ev.now (fun k => by rw [e, if_pos q])
    · refine Ev.step (fun k => by rw [e, if_neg q]) (ih (i + 1) (by omega) (by omega) r (hr.trans ⟨fun h => h.elim (fun h => absurd (by rw [hg]; exact h.symm) q) id, .inr⟩))
theorem Has_ (l : List Int) (x : Int) (hl : l.length ≤ 1048576) : Ev (fun k => spec_l00Has.f k l x) (decide (x ∈ l)) :=
  has_l l x hl l.length 0 rfl (by omega) _ (by rw [List.drop_zero]; exact decide_eq_true_iff)
theorem specOrd_l (l : List Int) (hl : l.length ≤ 12) : ∀ (d : Nat) (i : Nat), l.length - i = d → i ≤ l.length → ∀ r : Bool, (r = true ↔ ∀ j : Nat, i ≤ j → j < l.length → 0 ≤ rd l (j : Int) ∧ rd l (j : Int) < l.length ∧ rd l (j : Int) ∉ l.take j) → Ev (fun k => spec_l18Ok.l0 k l (l.length : Int) (i : Int)) r := by
  intro d
  induction d with
  | zero =>
    intro i hd hi r hr
    have : r = true := hr.2 (fun j h1 h2 => by omega)
    subst this
    refine Ev.now (fun k => ?_)
    simp only [spec_l18Ok.l0]
    rw [if_neg (by omega)]
  | succ d ih =>
    intro i hd hi r hr
    have e : ∀ k, spec_l18Ok.l0 (k + 1) l (l.length : Int) (i : Int) = if 0 ≤ rd l (i : Int) ∧ rd l (i : Int) ≤ (l.length : Int) - 1 then (spec_l00Has.f k (l.take i) (rd l (i : Int))).bind fun t => if t = true then some false else spec_l18Ok.l0 k l (l.length : Int) ((i + 1 : Nat) : Int) else some false := by
      intro k
      simp only [spec_l18Ok.l0]
      rw [if_pos (by omega), if_pos (by omega), In_, w64 (n := (l.length : Int) - 1) (by omega) (by omega)]
      simp only [Option.bind_some, decide_eq_true_eq]
      by_cases q : 0 ≤ rd l (i : Int) ∧ rd l (i : Int) ≤ (l.length : Int) - 1
      · rw [if_pos q, if_pos q, if_pos (by omega), w64 (n := (i : Int) + 1) (by omega) (by omega), Int.toNat_natCast]; rfl
      · rw [if_neg q, if_neg q]
    by_cases q : 0 ≤ rd l (i : Int) ∧ rd l (i : Int) ≤ (l.length : Int) - 1
    · refine Ev.step (fun k => by rw [e, if_pos q]) (Ev.bind (Has_ (l.take i) (rd l (i : Int)) (by rw [List.length_take]; omega)) ?_)
      by_cases z : rd l (i : Int) ∈ l.take i
      · have : r = false := by
          cases r with
          | false => rfl
          | true => exact absurd z (hr.1 rfl i (Nat.le_refl _) (by omega)).2.2
        subst this
        exact ⟨0, fun k _ => by rw [decide_eq_true z]; rfl⟩
      · refine Ev.eq (fun k => by rw [decide_eq_false z]; exact if_neg (by simp)) (ih (i + 1) (by omega) (by omega) r (hr.trans ⟨fun h j h1 h2 => h j (by omega) h2, fun h j h1 h2 => ?_⟩))
        by_cases g : j = i
        · subst g; exact ⟨q.1, by omega, z⟩
        · exact h j (by omega) h2
    · have : r = false := by
        cases r with
        | false => rfl
        | true => have := hr.1 rfl i (Nat.le_refl _) (by omega); exact absurd ⟨this.1, by omega⟩ q
      subst this
      exact Ev.now (fun k => by rw [e, if_neg q])
theorem okO_rd (l : List Int) (h1 : 2 ≤ l.length) (h2 : l.length ≤ 12) : okO l = true ↔ ∀ j : Nat, 0 ≤ j → j < l.length → 0 ≤ rd l (j : Int) ∧ rd l (j : Int) < l.length ∧ rd l (j : Int) ∉ l.take j := by
  rw [okO_iff, nodup_rd]
  constructor
  · rintro ⟨_, _, h3, h4⟩ j _ hj
    have := h3 (rd l (j : Int)) (by rw [rd_get l j hj]; exact List.getElem_mem _)
    exact ⟨this.1, this.2, h4 j hj⟩
  · intro h
    refine ⟨h1, h2, fun x hx => ?_, fun j hj => (h j (by omega) hj).2.2⟩
    obtain ⟨j, hj, he⟩ := List.getElem_of_mem hx
    have := h j (by omega) hj
    rw [rd_get l j hj, he] at this
    exact ⟨this.1, this.2.1⟩
theorem SpecOrd_ (l : List Int) : Ev (fun k => spec_l18Ok.f k l) (okO l) := by
  by_cases c : 2 ≤ l.length ∧ l.length ≤ 12
  · refine Ev.eq (h := fun k => spec_l18Ok.l0 k l (l.length : Int) ((0 : Nat) : Int)) (fun k => ?_) (specOrd_l l c.2 l.length 0 rfl (by omega) _ (okO_rd l c.1 c.2))
    unfold spec_l18Ok.f
    rw [In_]; simp only [Option.bind_some, decide_eq_true_eq]
    rw [if_pos (by omega)]; rfl
  · have : okO l = false := by
      cases h : okO l with
      | false => rfl
      | true => exact absurd ⟨((okO_iff l).1 h).1, ((okO_iff l).1 h).2.1⟩ c
    rw [this]
    refine ⟨0, fun k _ => ?_⟩
    show spec_l18Ok.f k l = some false
    unfold spec_l18Ok.f
    rw [In_]; simp only [Option.bind_some, decide_eq_true_eq]
    rw [if_neg (by omega)]

theorem arr_rd (S : List Int) (j : Nat) : S.toArray[j]! = rd S (j : Int) := by
  unfold rd; simp [List.getElem!_eq_getElem?_getD, List.getD_eq_getElem?_getD]
theorem keeps_rd (S : List Int) (j : Nat) : Lib.keeps S.toArray j = true ↔ (j = 0 ∨ rd S (j : Int) ≠ rd S ((j - 1 : Nat) : Int)) := by
  unfold Lib.keeps
  rw [arr_rd, arr_rd]; exact decide_eq_true_iff
/-- The sorted list. -/
def srt (l : List Int) : List Int := l.mergeSort fun x y => decide (x ≤ y)
theorem srt_perm (l : List Int) : (srt l).Perm l := List.mergeSort_perm _ _
theorem srt_len (l : List Int) : (srt l).length = l.length := (srt_perm l).length_eq
theorem srt_le (l : List Int) (i j : Nat) (hij : i < j) (hj : j < l.length) : rd (srt l) (i : Int) ≤ rd (srt l) (j : Int) := by
  have h := List.pairwise_mergeSort (le := fun (x y : Int) => decide (x ≤ y)) (fun a b c h1 h2 => by simp at *; omega) (fun a b => by simp; omega) l
  have h := List.pairwise_iff_getElem.1 h
  have hl := srt_len l
  rw [rd_get _ i (by omega), rd_get _ j (by omega)]
  have := h i j (by show i < (srt l).length; omega) (by show j < (srt l).length; omega) hij
  exact of_decide_eq_true this
theorem asc_full (l : List Int) (h : (ascL l).length = l.length) : ascL l = srt l ∧ ∀ j, j < l.length → Lib.keeps (srt l).toArray j = true := by
  have hk : ∀ j, j < l.length → Lib.keeps (srt l).toArray j = true := by
    have h2 : ((List.range l.length).filter (Lib.keeps (srt l).toArray)).length = (List.range l.length).length := by
      rw [List.length_range]
      refine Eq.trans ?_ h
      show _ = (((List.range l.length).filter (Lib.keeps (srt l).toArray)).map _).length
      rw [List.length_map]
    intro j hj
    exact List.length_filter_eq_length_iff.1 h2 j (List.mem_range.2 hj)
  refine ⟨?_, hk⟩
  have h3 := Lib.compactUpTo_all (srt l).toArray l.length hk
  have h4 := Lib.range_map_get (srt l).toArray
  rw [show (srt l).toArray.size = l.length from by simpa using srt_len l] at h4
  show Lib.compactUpTo (srt l).toArray l.length = _
  rw [h3, h4]
theorem asc_nodup (l : List Int) (h : l.Nodup) : (ascL l).length = l.length := by
  have hn : (srt l).Nodup := (srt_perm l).nodup_iff.2 h
  have hk : ∀ j, j < l.length → Lib.keeps (srt l).toArray j = true := by
    intro j hj
    rw [keeps_rd]
    by_cases c : j = 0
    · exact .inl c
    · refine .inr (fun e => ?_)
      have hl := srt_len l
      rw [rd_get _ j (by omega), rd_get _ (j - 1) (by omega)] at e
      exact List.pairwise_iff_getElem.1 (List.nodup_iff_pairwise_ne.1 hn) (j - 1) j (by omega) (by omega) (by omega) e.symm
  show (Lib.compactUpTo (srt l).toArray l.length).length = l.length
  rw [Lib.compactUpTo_all _ _ hk, List.length_map, List.length_range]
theorem rising_l (C : List Int) (m : Int) (m0 : 0 ≤ m) (m1 : m ≤ 12) (hC : C.length ≤ 12) : ∀ (d : Nat) (i : Nat), C.length - i = d → i ≤ C.length → ∀ r : Bool, (r = true ↔ ∀ j : Nat, i ≤ j → j < C.length → 0 ≤ rd C (j : Int) ∧ rd C (j : Int) < m ∧ (0 < j → rd C ((j - 1 : Nat) : Int) < rd C (j : Int))) → Ev (fun k => impl_rising.l0 k C m C (C.length : Int) (i : Int)) r := by
  intro d
  induction d with
  | zero =>
    intro i hd hi r hr
    have : r = true := hr.2 (fun j h1 h2 => by omega)
    subst this
    refine Ev.now (fun k => ?_)
    simp only [impl_rising.l0]
    rw [if_neg (by omega)]
  | succ d ih =>
    intro i hd hi r hr
    have e : ∀ k, impl_rising.l0 (k + 1) C m C (C.length : Int) (i : Int) = if 0 ≤ rd C (i : Int) ∧ rd C (i : Int) ≤ m - 1 then (if 0 < i ∧ rd C ((i - 1 : Nat) : Int) ≥ rd C (i : Int) then some false else impl_rising.l0 k C m C (C.length : Int) ((i + 1 : Nat) : Int)) else some false := by
      intro k
      simp only [impl_rising.l0]
      rw [if_pos (by omega), if_pos (by omega), if_pos (by omega), within_, w64 (n := m - 1) (by omega) (by omega), w64 (n := (i : Int) + 1) (by omega) (by omega), w64 (n := (i : Int) - 1) (by omega) (by omega)]
      simp only [Option.bind_some, decide_eq_true_eq]
      by_cases q : 0 ≤ rd C (i : Int) ∧ rd C (i : Int) ≤ m - 1
      · rw [if_pos q, if_pos q]
        by_cases z : 0 < i
        · rw [if_pos (by omega), if_pos (by omega), if_pos (by omega), show ((i : Int) - 1) = ((i - 1 : Nat) : Int) by omega]
          by_cases g : rd C ((i - 1 : Nat) : Int) ≥ rd C (i : Int)
          · rw [if_pos g, if_pos ⟨z, g⟩]
          · rw [if_neg g, if_neg (fun h => g h.2)]; rfl
        · rw [if_neg (by omega), if_neg (fun h => z h.1)]; rfl
      · rw [if_neg q, if_neg q]
    have no : (¬ (0 ≤ rd C (i : Int) ∧ rd C (i : Int) < m ∧ (0 < i → rd C ((i - 1 : Nat) : Int) < rd C (i : Int)))) → r = false := by
      intro h
      cases r with
      | false => rfl
      | true => exact absurd (hr.1 rfl i (Nat.le_refl _) (by omega)) h
    by_cases q : 0 ≤ rd C (i : Int) ∧ rd C (i : Int) ≤ m - 1
    · by_cases z : 0 < i ∧ rd C ((i - 1 : Nat) : Int) ≥ rd C (i : Int)
      · have := no (fun h => by have := h.2.2 z.1; omega)
        subst this
        exact Ev.now (fun k => by rw [e, if_pos q, if_pos z])
      · refine Ev.step (fun k => by rw [e, if_pos q, if_neg z]) (ih (i + 1) (by omega) (by omega) r (hr.trans ⟨fun h j h1 h2 => h j (by omega) h2, fun h j h1 h2 => ?_⟩))
        by_cases g : j = i
        · subst g; exact ⟨q.1, by omega, fun h0 => by omega⟩
        · exact h j (by omega) h2
    · have := no (fun h => q ⟨h.1, by omega⟩)
      subst this
      exact Ev.now (fun k => by rw [e, if_neg q])
theorem lt_all (C : List Int) (h : ∀ j : Nat, j < C.length → 0 < j → rd C ((j - 1 : Nat) : Int) < rd C (j : Int)) : ∀ (d i : Nat), i + d + 1 < C.length → rd C (i : Int) < rd C ((i + d + 1 : Nat) : Int) := by
  intro d
  induction d with
  | zero => intro i hi; have := h (i + 1) (by omega) (by omega); simpa using this
  | succ d ih =>
    intro i hi
    have h1 := ih i (by omega)
    have h2 := h (i + (d + 1) + 1) (by omega) (by omega)
    rw [show i + (d + 1) + 1 - 1 = i + d + 1 by omega] at h2
    omega
theorem ImplOrd_ (l : List Int) (hl : l.length ≤ 1048576) : Ev (fun k => impl_ValidOrder.f k l) (okO l) := by
  have ha : impl_ascending.f l = some (ascL l) := by unfold impl_ascending.f; rw [if_pos (by omega)]
  have no : okO l = false → (∀ k, impl_ValidOrder.f k l = some false) → Ev (fun k => impl_ValidOrder.f k l) (okO l) := fun h1 h2 => by rw [h1]; exact ⟨0, fun k _ => h2 k⟩
  have nk : (¬ (2 ≤ l.length ∧ l.length ≤ 12 ∧ l.Nodup)) → okO l = false := by
    intro h
    cases g : okO l with
    | false => rfl
    | true => have := (okO_iff l).1 g; exact absurd ⟨this.1, this.2.1, this.2.2.2⟩ h
  by_cases c1 : (l.length : Int) ≥ 2
  · by_cases c2 : (l.length : Int) ≤ 12
    · by_cases c3 : (ascL l).length = l.length
      · obtain ⟨hC, hk⟩ := asc_full l c3
        refine Ev.eq (h := fun k => impl_rising.l0 k (srt l) (l.length : Int) (srt l) ((srt l).length : Int) ((0 : Nat) : Int)) (fun k => ?_) (rising_l (srt l) (l.length : Int) (by omega) (by omega) (by rw [srt_len]; omega) (srt l).length 0 rfl (by omega) _ ?_)
        · unfold impl_ValidOrder.f
          rw [ha]; simp only [Option.bind_some]
          rw [if_pos c1, if_pos c2, if_pos (by omega), hC]
          show (impl_rising.f k (srt l) (l.length : Int)).bind (fun t => some t) = impl_rising.f k (srt l) (l.length : Int)
          cases impl_rising.f k (srt l) (l.length : Int) <;> rfl
        · have hlen := srt_len l
          rw [okO_iff]
          constructor
          · rintro ⟨_, _, h3, h4⟩ j _ hj
            have hm := h3 (rd (srt l) (j : Int)) ((srt_perm l).mem_iff.1 (by rw [rd_get _ j hj]; exact List.getElem_mem _))
            refine ⟨hm.1, hm.2, fun h0 => ?_⟩
            have h5 := srt_le l (j - 1) j (by omega) (by omega)
            have h6 := (keeps_rd (srt l) j).1 (hk j (by omega))
            omega
          · intro h
            refine ⟨by omega, by omega, fun x hx => ?_, ?_⟩
            · obtain ⟨j, hj, he⟩ := List.getElem_of_mem ((srt_perm l).mem_iff.2 hx)
              have := h j (by omega) hj
              rw [rd_get _ j hj, he] at this
              exact ⟨this.1, this.2.1⟩
            · refine (srt_perm l).nodup_iff.1 (List.nodup_iff_pairwise_ne.2 (List.pairwise_iff_getElem.2 (fun i j hi hj hij e => ?_)))
              have := lt_all (srt l) (fun j h1 h2 => (h j (by omega) h1).2.2 h2) (j - i - 1) i (by omega)
              rw [show i + (j - i - 1) + 1 = j by omega, rd_get _ i hi, rd_get _ j hj] at this
              omega
      · refine no (nk (fun h => c3 (asc_nodup l h.2.2))) (fun k => ?_)
        unfold impl_ValidOrder.f
        rw [ha]; simp only [Option.bind_some]
        rw [if_pos c1, if_pos c2, if_neg (by omega)]
    · refine no (nk (fun h => by omega)) (fun k => ?_)
      unfold impl_ValidOrder.f
      rw [ha]; simp only [Option.bind_some]
      rw [if_pos c1, if_neg c2]
  · refine no (nk (fun h => by omega)) (fun k => ?_)
    unfold impl_ValidOrder.f
    rw [ha]; simp only [Option.bind_some]
    rw [if_neg c1]

/-- From some number of rounds on there is an answer, one that is as told. -/
def EvP {α : Type} (g : Nat → Option α) (Q : α → Prop) : Prop := ∃ r, Q r ∧ Ev g r
theorem EvP.step {α : Type} {g h : Nat → Option α} {Q : α → Prop} (e : ∀ k, g (k + 1) = h k) (hr : EvP h Q) : EvP g Q := by
  obtain ⟨r, hq, hr⟩ := hr
  exact ⟨r, hq, Ev.step e hr⟩
theorem EvP.eq {α : Type} {g h : Nat → Option α} {Q : α → Prop} (e : ∀ k, g k = h k) (hr : EvP h Q) : EvP g Q := by
  obtain ⟨r, hq, hr⟩ := hr
  exact ⟨r, hq, Ev.eq e hr⟩
theorem EvP.bind {α β : Type} {c : Nat → Option α} {f : Nat → α → Option β} {P : α → Prop} {Q : β → Prop} (hc : EvP c P) (hf : ∀ t, P t → EvP (fun k => f k t) Q) : EvP (fun k => (c k).bind (f k)) Q := by
  obtain ⟨t, hp, hc⟩ := hc
  obtain ⟨r, hq, hr⟩ := hf t hp
  exact ⟨r, hq, Ev.bind hc hr⟩

theorem rd_set_s (l : List Int) (i : Int) (v : Int) (h0 : 0 ≤ i) (h : i < l.length) : rd (l.set i.toNat v) i = v := by
  unfold rd; simp [List.getD_eq_getElem?_getD, List.getElem?_set, show i.toNat < l.length by omega]
theorem rd_set_o (l : List Int) (i j : Int) (v : Int) (h0 : 0 ≤ i) (h1 : 0 ≤ j) (h : i ≠ j) : rd (l.set i.toNat v) j = rd l j := by
  unfold rd; simp [List.getD_eq_getElem?_getD, List.getElem?_set, show ¬ i.toNat = j.toNat by omega]
theorem up_all (C : List Int) (h : ∀ j : Nat, j < C.length → 0 < j → rd C ((j - 1 : Nat) : Int) < rd C (j : Int)) : ∀ (d i : Nat), i + d < C.length → rd C (i : Int) + d ≤ rd C ((i + d : Nat) : Int) := by
  intro d
  induction d with
  | zero => intro i hi; simp
  | succ d ih =>
    intro i hi
    have h1 := ih i (by omega)
    have h2 := h (i + (d + 1)) (by omega) (by omega)
    rw [show i + (d + 1) - 1 = i + d by omega] at h2
    omega
theorem rd_in' (l : List Int) (j : Nat) (h : j < l.length) : rd l (j : Int) ∈ l := by rw [rd_get l j h]; exact List.getElem_mem _
theorem all_in {l : List Int} (h : okO l = true) (x : Int) (x0 : 0 ≤ x) (x1 : x < l.length) : x ∈ l := by
  obtain ⟨h1, h2, h3, h4⟩ := (okO_iff l).1 h
  have hl := srt_len l
  have hn : (srt l).Nodup := (srt_perm l).nodup_iff.2 h4
  have hup := up_all (srt l) (fun j hj h0 => by
    have a := srt_le l (j - 1) j (by omega) (by omega)
    have b := List.pairwise_iff_getElem.1 (List.nodup_iff_pairwise_ne.1 hn) (j - 1) j (by omega) hj (by omega)
    rw [rd_get _ j hj, rd_get _ (j - 1) (by omega)] at a ⊢
    omega)
  have hr : ∀ j : Nat, j < l.length → 0 ≤ rd (srt l) (j : Int) ∧ rd (srt l) (j : Int) < l.length := fun j hj => h3 _ ((srt_perm l).mem_iff.1 (rd_in' _ j (by omega)))
  have a := hup x.toNat 0 (by omega)
  have b := hup (l.length - 1 - x.toNat) x.toNat (by omega)
  rw [show 0 + x.toNat = x.toNat by omega] at a
  rw [show x.toNat + (l.length - 1 - x.toNat) = l.length - 1 by omega] at b
  have c := hr 0 (by omega)
  have d := hr (l.length - 1) (by omega)
  have e : rd (srt l) ((x.toNat : Nat) : Int) = x := by omega
  have := rd_in' (srt l) x.toNat (by omega)
  rw [e] at this
  exact (srt_perm l).mem_iff.1 this
theorem rd_inj {l : List Int} (h : l.Nodup) (i j : Nat) (hi : i < l.length) (hj : j < l.length) (e : rd l (i : Int) = rd l (j : Int)) : i = j := by
  have hp := List.pairwise_iff_getElem.1 (List.nodup_iff_pairwise_ne.1 h)
  rw [rd_get l i hi, rd_get l j hj] at e
  rcases Nat.lt_trichotomy i j with g | g | g
  · exact absurd e (hp i j hi hj g)
  · exact g
  · exact absurd e.symm (hp j i hj hi g)
/-- Where a gore stands in an order. -/
def pos (l : List Int) (x : Int) : Nat := l.idxOf x
theorem pos_says {l : List Int} (h : okO l = true) (x : Int) (x0 : 0 ≤ x) (x1 : x < l.length) : pos l x < l.length ∧ rd l (pos l x : Int) = x := by
  have hm := all_in h x x0 x1
  have hlt : pos l x < l.length := List.idxOf_lt_length_iff.2 hm
  exact ⟨hlt, by rw [rd_get l _ hlt]; exact List.getElem_idxOf hlt⟩
theorem rd_ok {l : List Int} (h : okO l = true) (j : Nat) (hj : j < l.length) : 0 ≤ rd l (j : Int) ∧ rd l (j : Int) < l.length := ((okO_iff l).1 h).2.2.1 _ (rd_in' l j hj)
theorem pos_rd {l : List Int} (h : okO l = true) (i : Nat) (hi : i < l.length) : pos l (rd l (i : Int)) = i := by
  have hr := rd_ok h i hi
  obtain ⟨h1, h2⟩ := pos_says h _ hr.1 hr.2
  exact rd_inj ((okO_iff l).1 h).2.2.2 _ _ h1 hi h2

theorem index_l {l : List Int} (h : okO l = true) (x : Int) (x0 : 0 ≤ x) (x1 : x < l.length) : ∀ (d i : Nat), pos l x - i = d → i ≤ pos l x → Ev (fun k => slices_Index_int64_int64.l0 k l x (l.length : Int) (i : Int)) (pos l x : Int) := by
  obtain ⟨p1, p2⟩ := pos_says h x x0 x1
  have hn := (okO_iff l).1 h
  intro d
  induction d with
  | zero =>
    intro i hd hi
    obtain rfl : i = pos l x := by omega
    refine Ev.now (fun k => ?_)
    simp only [slices_Index_int64_int64.l0]
    rw [if_pos (by omega), if_pos (by omega), if_pos (by omega), if_pos p2.symm]
  | succ d ih =>
    intro i hd hi
    have hne : ¬ x = rd l (i : Int) := fun e => by
      have := rd_inj hn.2.2.2 (pos l x) i p1 (by omega) (by rw [p2]; exact e)
      omega
    refine Ev.step (h := fun k => slices_Index_int64_int64.l0 k l x (l.length : Int) ((i + 1 : Nat) : Int)) (fun k => ?_) (ih (i + 1) (by omega) (by omega))
    simp only [slices_Index_int64_int64.l0]
    rw [if_pos (by omega), if_pos (by omega), if_pos (by omega), if_neg hne, w64 (n := (i : Int) + 1) (by omega) (by omega)]; rfl
theorem Index_ {l : List Int} (h : okO l = true) (x : Int) (x0 : 0 ≤ x) (x1 : x < l.length) : Ev (fun k => slices_Index_int64_int64.f k l x) (pos l x : Int) :=
  index_l h x x0 x1 (pos l x) 0 (by omega) (by omega)
theorem places_l {l : List Int} (h : okO l = true) : ∀ (d i : Nat) (a : List Int), l.length - i = d → i ≤ l.length → a.length = l.length → (∀ j : Nat, j < i → rd a (rd l (j : Int)) = j) → EvP (fun k => spec_l18Places.l0 k l a (i : Int)) (fun a => a.length = l.length ∧ ∀ j : Nat, j < l.length → rd a (rd l (j : Int)) = j) := by
  have hn := (okO_iff l).1 h
  intro d
  induction d with
  | zero =>
    intro i a hd hi ha hr
    refine ⟨a, ⟨ha, fun j hj => hr j (by omega)⟩, Ev.now (fun k => ?_)⟩
    simp only [spec_l18Places.l0]
    rw [if_neg (by omega)]
  | succ d ih =>
    intro i a hd hi ha hr
    have hx := rd_ok h i (by omega)
    refine EvP.step (h := fun k => spec_l18Places.l0 k l (a.set (rd l (i : Int)).toNat (i : Int)) ((i + 1 : Nat) : Int)) (fun k => ?_) (ih (i + 1) _ (by omega) (by omega) (by simpa using ha) (fun j hj => ?_))
    · simp only [spec_l18Places.l0]
      rw [if_pos (by omega), if_pos (by omega), if_pos hx.1, if_pos (by omega), w64 (n := (i : Int) + 1) (by omega) (by omega)]; rfl
    · by_cases e : j = i
      · subst e; exact rd_set_s _ _ _ hx.1 (by omega)
      · have hy := rd_ok h j (by omega)
        rw [rd_set_o _ _ _ _ hx.1 hy.1 (fun g => e (rd_inj hn.2.2.2 _ _ (by omega) (by omega) g.symm))]
        exact hr j (by omega)
theorem Places_ {l : List Int} (h : okO l = true) : EvP (fun k => spec_l18Places.f k l) (fun a => a.length = l.length ∧ ∀ x : Int, 0 ≤ x → x < l.length → rd a x = pos l x) := by
  have hn := (okO_iff l).1 h
  obtain ⟨a, ⟨h1, h2⟩, h3⟩ := places_l h l.length 0 (List.replicate l.length 0) rfl (by omega) (by simp) (fun j hj => by omega)
  refine ⟨a, ⟨h1, fun x x0 x1 => ?_⟩, Ev.eq (fun k => ?_) h3⟩
  · obtain ⟨p1, p2⟩ := pos_says h x x0 x1
    have := h2 (pos l x) p1
    rw [p2] at this; exact this
  · unfold spec_l18Places.f
    rw [if_pos (by omega), if_pos (by rw [Int.toNat_natCast]; omega), Int.toNat_natCast]; rfl
theorem str_append' (a b : List Int) : strOfNums (a ++ b) = strOfNums a ++ strOfNums b := by
  apply ByteArray.ext
  simp [strOfNums]
/-- The seams from one on. -/
def upT (l : List Int) : Nat → Int → List Int
  | 0, _ => []
  | d + 1, k => (if (pos l (Int.tmod (k + 1) l.length) : Int) > (pos l k : Int) then 62 else 60) :: upT l d (k + 1)
theorem tmod_in (k n : Int) (h0 : 0 ≤ k) (h1 : 0 < n) : 0 ≤ Int.tmod k n ∧ Int.tmod k n < n := ⟨Int.tmod_nonneg _ h0, Int.tmod_lt_of_pos _ h1⟩
theorem specUpper_l {l : List Int} (h : okO l = true) (a : List Int) (ha : a.length = l.length) (hr : ∀ x : Int, 0 ≤ x → x < l.length → rd a x = pos l x) : ∀ (d i : Nat) (t : List Int), l.length - i = d → i ≤ l.length → t.length = i → Ev (fun k => spec_l18Upper.l0 k a (strOfNums t) (i : Int)) (strOfNums (t ++ upT l d (i : Int))) := by
  have hn := (okO_iff l).1 h
  intro d
  induction d with
  | zero =>
    intro i t hd hi ht
    refine Ev.now (fun k => ?_)
    simp only [spec_l18Upper.l0]
    rw [if_neg (by omega)]; simp [upT]
  | succ d ih =>
    intro i t hd hi ht
    have hm := tmod_in ((i : Int) + 1) (l.length : Int) (by omega) (by omega)
    have e : ∀ k, spec_l18Upper.l0 (k + 1) a (strOfNums t) (i : Int) = spec_l18Upper.l0 k a (strOfNums (t ++ [if (pos l (Int.tmod ((i : Int) + 1) l.length) : Int) > (pos l (i : Int) : Int) then 62 else 60])) ((i + 1 : Nat) : Int) := by
      intro k
      simp only [spec_l18Upper.l0]
      rw [ha, w64 (n := (i : Int) + 1) (by omega) (by omega), if_pos (by omega), if_neg (by omega), if_pos hm.1, if_pos hm.2, if_pos (by omega), hr _ hm.1 hm.2, hr _ (by omega) (by omega), strOfNums_size, str_append']
      by_cases c : (pos l (Int.tmod ((i : Int) + 1) l.length) : Int) > (pos l (i : Int) : Int)
      · rw [if_pos c, if_pos c, if_pos (by omega)]; rfl
      · rw [if_neg c, if_neg c, if_pos (by omega)]; rfl
    refine Ev.step e ?_
    have := ih (i + 1) (t ++ [if (pos l (Int.tmod ((i : Int) + 1) l.length) : Int) > (pos l (i : Int) : Int) then 62 else 60]) (by omega) (by omega) (by simp; omega)
    rw [List.append_assoc] at this
    exact this
theorem SpecUpper_ {l : List Int} (h : okO l = true) : Ev (fun k => spec_l18Upper.f k l) (strOfNums (upT l l.length 0)) := by
  obtain ⟨a, ⟨h1, h2⟩, h3⟩ := Places_ h
  have := specUpper_l h a h1 h2 l.length 0 [] rfl (by omega) rfl
  exact Ev.eq (h := fun k => (spec_l18Places.f k l).bind fun t => spec_l18Upper.l0 k t ⟨#[]⟩ 0) (fun k => rfl) (Ev.bind h3 this)
theorem implUpper_l {l : List Int} (h : okO l = true) : ∀ (d i : Nat) (t : List Int), l.length - i = d → i ≤ l.length → t.length = i → Ev (fun k => impl_upperAt.l0 k l t (l.length : Int) (l.length : Int) (i : Int)) (strOfNums (t ++ upT l d (i : Int))) := by
  have hn := (okO_iff l).1 h
  intro d
  induction d with
  | zero =>
    intro i t hd hi ht
    refine Ev.now (fun k => ?_)
    simp only [impl_upperAt.l0]
    rw [if_neg (by omega)]; simp [upT]
  | succ d ih =>
    intro i t hd hi ht
    have hm := tmod_in ((i : Int) + 1) (l.length : Int) (by omega) (by omega)
    refine Ev.step (h := fun k => (slices_Index_int64_int64.f k l (Int.tmod ((i : Int) + 1) (l.length : Int))).bind fun t138 => (slices_Index_int64_int64.f k l (i : Int)).bind fun t139 => impl_upperAt.l0 k l (t ++ [if t138 > t139 then 62 else 60]) (l.length : Int) (l.length : Int) ((i + 1 : Nat) : Int)) (fun k => ?_) (Ev.bind (Index_ h _ hm.1 hm.2) (Ev.bind (Index_ h (i : Int) (by omega) (by omega)) ?_))
    · simp only [impl_upperAt.l0]
      rw [if_pos (by omega), if_neg (by omega), w64 (n := (i : Int) + 1) (by omega) (by omega)]
      congr 1; funext t138; congr 1; funext t139
      by_cases c : t138 > t139
      · rw [if_pos c, if_pos c, if_pos (by omega)]; rfl
      · rw [if_neg c, if_neg c, if_pos (by omega)]; rfl
    · have := ih (i + 1) (t ++ [if (pos l (Int.tmod ((i : Int) + 1) l.length) : Int) > (pos l (i : Int) : Int) then 62 else 60]) (by omega) (by omega) (by simp; omega)
      rw [List.append_assoc] at this
      exact this
theorem ImplUpper_ {l : List Int} (h : okO l = true) : Ev (fun k => impl_upperAt.f k l) (strOfNums (upT l l.length 0)) :=
  implUpper_l h l.length 0 [] rfl (by omega) rfl

theorem toInts_l (l : List Int) (hl : l.length ≤ 1048576) : ∀ (d k : Nat) (i : Int) (a : List Int), (l.length : Int) - i = d → 0 ≤ i → a.length = l.length → (∀ j : Int, 0 ≤ j → j < i → rd a j = rd l j) → d < k → laws_toInt64S.l0 k l a i = some l := by
  intro d
  induction d with
  | zero =>
    intro k i a hd h0 ha hr hk
    obtain ⟨k, rfl⟩ : ∃ m, k = m + 1 := ⟨k - 1, by omega⟩
    simp only [laws_toInt64S.l0]; rw [if_neg (by omega)]
    congr 1
    exact rd_ext a l ha (fun j h1 h2 => hr j h1 (by omega))
  | succ d ih =>
    intro k i a hd h0 ha hr hk
    obtain ⟨k, rfl⟩ : ∃ m, k = m + 1 := ⟨k - 1, by omega⟩
    simp only [laws_toInt64S.l0]
    rw [if_pos (by omega), if_pos h0, if_pos (by omega), w64 (by omega) (by omega)]
    refine ih k (i + 1) _ (by omega) (by omega) (by simpa using ha) (fun j h1 h2 => ?_) (by omega)
    by_cases e : j = i
    · subst e; exact rd_same _ _ _ h0 (by omega)
    · rw [rd_other _ _ _ _ h0 h1 (by omega)]; exact hr j h1 (by omega)
theorem toInts_ (l : List Int) (hl : l.length ≤ 1048576) (k : Nat) (hk : 1048577 ≤ k) : laws_toInt64S.f k l = some l := by
  unfold laws_toInt64S.f
  rw [if_pos (by omega), if_pos (by simp; omega)]
  exact toInts_l l hl l.length k 0 _ (by omega) (by omega) (by simp) (fun j h1 h2 => by omega) (by omega)

theorem eqInts_l (l : List Int) (hl : l.length ≤ 1152921504606846976) : ∀ (d k : Nat) (i : Int), (l.length : Int) - i = d → 0 ≤ i → d < k → laws_eqInt64S.l0 k l l i = some true := by
  intro d
  induction d with
  | zero =>
    intro k i hd h0 hk
    obtain ⟨k, rfl⟩ : ∃ m, k = m + 1 := ⟨k - 1, by omega⟩
    simp only [laws_eqInt64S.l0]; rw [if_neg (by omega)]
  | succ d ih =>
    intro k i hd h0 hk
    obtain ⟨k, rfl⟩ : ∃ m, k = m + 1 := ⟨k - 1, by omega⟩
    simp only [laws_eqInt64S.l0]
    rw [if_pos (by omega), if_pos h0, if_pos (by omega), if_pos trivial, w64 (by omega) (by omega)]
    exact ih k (i + 1) (by omega) (by omega) (by omega)
theorem eqInts_ (l : List Int) (hl : l.length ≤ 1152921504606846976) (k : Nat) (hk : l.length < k) : laws_eqInt64S.f k l l = some true := by
  unfold laws_eqInt64S.f
  rw [if_pos rfl]; exact eqInts_l l hl l.length k 0 (by omega) (by omega) hk

theorem eqI_ (l : List Int) (hl : l.length ≤ 1048576) (k : Nat) (hk : 1048577 ≤ k) : laws_eqInt64S.f k l l = some true := eqInts_ l (by omega) k (by omega)

theorem FnExactUpperAt : laws_FnExactUpperAt.Pure := by
  intro l _ _ _
  by_cases hb : (l.length : Int) > 1048576
  · exact ⟨0, by unfold laws_FnExactUpperAt.f; rw [if_pos hb]⟩
  have hl : l.length ≤ 1048576 := by omega
  obtain ⟨r, ⟨K1, e1⟩, ⟨K2, e2⟩⟩ : ∃ r, Ev (fun k => spec_UpperAt.f k l) r ∧ Ev (fun k => impl_UpperAt.f k l) r := by
    by_cases h : okO l = true
    · refine ⟨(strOfNums (upT l l.length 0), 0), Ev.eq (h := fun k => (spec_l18Ok.f k l).bind fun t => if t = true then ((spec_l18Upper.f k l).bind fun t => some (t, 0)) else some (⟨#[]⟩, 1)) (fun k => rfl) (Ev.bind (SpecOrd_ l) ?_), Ev.eq (h := fun k => (impl_ValidOrder.f k l).bind fun t => if t = true then ((impl_upperAt.f k l).bind fun t => some (t, 0)) else some (⟨#[]⟩, 1)) (fun k => rfl) (Ev.bind (ImplOrd_ l hl) ?_)⟩
      · exact Ev.eq (h := fun k => (spec_l18Upper.f k l).bind fun t => some (t, 0)) (fun k => by rw [if_pos h]) (Ev.bind (SpecUpper_ h) ⟨0, fun k _ => rfl⟩)
      · exact Ev.eq (h := fun k => (impl_upperAt.f k l).bind fun t => some (t, 0)) (fun k => by rw [if_pos h]) (Ev.bind (ImplUpper_ h) ⟨0, fun k _ => rfl⟩)
    · refine ⟨(⟨#[]⟩, 1), Ev.eq (h := fun k => (spec_l18Ok.f k l).bind fun t => if t = true then ((spec_l18Upper.f k l).bind fun t => some (t, 0)) else some (⟨#[]⟩, 1)) (fun k => rfl) (Ev.bind (SpecOrd_ l) ⟨0, fun k _ => if_neg h⟩), Ev.eq (h := fun k => (impl_ValidOrder.f k l).bind fun t => if t = true then ((impl_upperAt.f k l).bind fun t => some (t, 0)) else some (⟨#[]⟩, 1)) (fun k => rfl) (Ev.bind (ImplOrd_ l hl) ⟨0, fun k _ => if_neg h⟩)⟩
  dsimp only at e1 e2
  refine ⟨1048600 + (K1 + K2), ?_⟩
  generalize hk : 1048600 + (K1 + K2) = k
  unfold laws_FnExactUpperAt.f
  rw [if_neg hb, toInts_ l hl _ (by omega)]; simp only [Option.bind_some]
  rw [e1 _ (by omega)]; simp only [Option.bind_some]
  rw [e2 _ (by omega)]; simp only [Option.bind_some, if_true, bne_self_eq_false]
  obtain ⟨k, rfl⟩ : ∃ m, k = m + 1 := ⟨k - 1, by omega⟩
  simp only [laws_FnExactUpperAt.j0, Bool.false_eq_true, if_false]
  rw [toInts_ l hl _ (by omega)]; simp only [Option.bind_some]
  rw [eqI_ l hl _ (by omega)]; simp

end Go.Proofs.Ytfpddpkloplpeaa.Pure
