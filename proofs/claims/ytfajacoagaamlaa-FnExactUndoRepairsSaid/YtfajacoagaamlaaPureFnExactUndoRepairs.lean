/- For all states and steps the program's UndoRepairs answers as the reference's does, in memory of its own. No condition. -/
import Derived.Test.YtfajacoagaamlaaQFnExactUndoRepairsx5
import Derived.Test.YtfajacoagaamlaaBase
namespace Go.Proofs.Ytfajacoagaamlaa.Pure
open Go Go.RowKit Go.Proofs.Ytfajacoagaamlaa.QFnExactUndoRepairs Go.Proofs.YtfajacoagaamlaaW.PrintWords Go.Proofs.YtfajacoagaamlaaW.PrintLast Go.Proofs.YtfajacoagaamlaaW.PrintMore Go.Proofs.Ytfajacoagaamlaa.Base
set_option linter.unusedVariables false
set_option linter.unusedSimpArgs false

/-- From some number of rounds on the answer is r. -/
def Ev {α : Type} (g : Nat → Option α) (r : α) : Prop := ∃ K, ∀ k, K ≤ k → g k = some r
theorem Ev.step {α : Type} {g h : Nat → Option α} {r : α} (e : ∀ k, g (k + 1) = h k) (hr : Ev h r) : Ev g r := by
  obtain ⟨K, hK⟩ := hr
  refine ⟨K + 1, fun k hk => ?_⟩
  obtain ⟨k, rfl⟩ : ∃ m, k = m + 1 := ⟨k - 1, by omega⟩
  rw [e]; exact hK k (by omega)
theorem Ev.now {α : Type} {g : Nat → Option α} {r : α} (e : ∀ k, g (k + 1) = some r) : Ev g r := Ev.step (h := fun _ => some r) e ⟨0, fun _ _ => rfl⟩
theorem Ev.bind {α β : Type} {c : Nat → Option α} {f : Nat → α → Option β} {t : α} {r : β} (hc : Ev c t) (hf : Ev (fun k => f k t) r) : Ev (fun k => (c k).bind (f k)) r := by
  obtain ⟨K, hK⟩ := hc
  obtain ⟨L, hL⟩ := hf
  exact ⟨K + L, fun k hk => by show (c k).bind (f k) = some r; rw [hK k (by omega)]; exact hL k (by omega)⟩
theorem Ev.eq {α : Type} {g h : Nat → Option α} {r : α} (e : ∀ k, g k = h k) (hr : Ev h r) : Ev g r := by
  obtain ⟨K, hK⟩ := hr
  exact ⟨K, fun k hk => by rw [e]; exact hK k hk⟩

theorem gd_ext {α : Type} (z : α) (a l : List α) (h : a.length = l.length) (h2 : ∀ j : Int, 0 ≤ j → j < l.length → a.getD j.toNat z = l.getD j.toNat z) : a = l := by
  apply List.ext_getElem h
  intro n h1 h3
  have := h2 n (by omega) (by omega)
  rw [List.getD_eq_getElem?_getD, List.getD_eq_getElem?_getD, Int.toNat_natCast, List.getElem?_eq_getElem h1, List.getElem?_eq_getElem h3] at this
  exact this
theorem gd_same {α : Type} (z : α) (l : List α) (i : Int) (v : α) (h0 : 0 ≤ i) (h : i < l.length) : (l.set i.toNat v).getD i.toNat z = v := by
  simp [List.getD_eq_getElem?_getD, List.getElem?_set, show i.toNat < l.length by omega]
theorem gd_other {α : Type} (z : α) (l : List α) (i j : Int) (v : α) (h0 : 0 ≤ i) (h1 : 0 ≤ j) (h : i ≠ j) : (l.set i.toNat v).getD j.toNat z = l.getD j.toNat z := by
  simp [List.getD_eq_getElem?_getD, List.getElem?_set, show ¬ i.toNat = j.toNat by omega]
theorem gd_in {α : Type} (z : α) (l : List α) (i : Int) (h0 : 0 ≤ i) (h : i < l.length) : l.getD i.toNat z ∈ l := by
  rw [List.getD_eq_getElem?_getD, List.getElem?_eq_getElem (by omega)]
  exact List.getElem_mem _
theorem gd_map {α β : Type} (z : α) (y : β) (f : α → β) (l : List α) (i : Int) (h0 : 0 ≤ i) (h : i < l.length) : (l.map f).getD i.toNat y = f (l.getD i.toNat z) := by
  rw [List.getD_eq_getElem?_getD, List.getD_eq_getElem?_getD, List.getElem?_map, List.getElem?_eq_getElem (by omega)]
  rfl
theorem size64 {n : Nat} (h : n ≤ maxLen) : (n : Int) ≤ 9223372036854775807 := by
  have e : maxLen = 9223372036854775807 := by decide
  omega

abbrev IR := S64

def okT (l : List Int) : Bool := decide ((l.length : Int) ≤ 40) && l.all fun x => decide (0 ≤ x ∧ x ≤ 3)
theorem okT_says {l : List Int} (h : okT l = true) : l.length ≤ 40 ∧ (∀ x ∈ l, 0 ≤ x ∧ x ≤ 3) ∧ ∀ i : Int, 0 ≤ i → i < l.length → 0 ≤ rd l i ∧ rd l i ≤ 3 := by
  unfold okT at h
  simp only [Bool.and_eq_true, decide_eq_true_eq, List.all_eq_true] at h
  exact ⟨by omega, h.2, fun i h0 h1 => h.2 _ (rd_in l i h0 h1)⟩

abbrev LR := S70
def cvR (x : LR) : IR := ⟨x.f0, x.f1, x.f2⟩
/-- What is left: below 0, or the list is short. -/
theorem szReps_ (l : List LR) (hm : l.length ≤ maxLen) (m : Int) (h0 : 0 ≤ m) (h1 : m ≤ 1048576) : ∃ r, r ≤ 1048576 ∧ (0 ≤ r → l.length ≤ 1048576) ∧ laws_szRepairS.f l m = some r := by
  have := size64 hm
  unfold laws_szRepairS.f
  rw [w64 (by omega) (by omega)]
  by_cases c : m - (l.length : Int) < 0
  · rw [if_pos c]; exact ⟨_, by omega, fun h => by omega, rfl⟩
  · rw [if_neg c]; exact ⟨_, by omega, fun _ => by omega, rfl⟩
theorem toReps_l (l : List LR) (hl : l.length ≤ 1048576) : ∀ (d k : Nat) (i : Int) (a : List IR), (l.length : Int) - i = d → 0 ≤ i → a.length = l.length → (∀ j : Int, 0 ≤ j → j < i → a.getD j.toNat z64 = cvR (l.getD j.toNat z70)) → d < k → laws_toRepairS.l0 k l a i = some (l.map cvR) := by
  intro d
  induction d with
  | zero =>
    intro k i a hd h0 ha hr hk
    obtain ⟨k, rfl⟩ : ∃ m, k = m + 1 := ⟨k - 1, by omega⟩
    simp only [laws_toRepairS.l0]; rw [if_neg (by omega)]
    congr 1
    refine gd_ext z64 a _ (by simpa using ha) (fun j h1 h2 => ?_)
    rw [hr j h1 (by simp at h2; omega), gd_map z70 _ _ _ _ h1 (by simpa using h2)]
  | succ d ih =>
    intro k i a hd h0 ha hr hk
    obtain ⟨k, rfl⟩ : ∃ m, k = m + 1 := ⟨k - 1, by omega⟩
    simp only [laws_toRepairS.l0]
    rw [if_pos (by omega), if_pos h0]; simp only [laws_toRepair.f, Option.bind_some]
    rw [if_pos (by omega), w64 (by omega) (by omega)]
    refine ih k (i + 1) _ (by omega) (by omega) (by simpa using ha) (fun j h1 h2 => ?_) (by omega)
    by_cases e : j = i
    · subst e; rw [gd_same _ _ _ _ h0 (by omega)]; rfl
    · rw [gd_other _ _ _ _ _ h0 h1 (by omega)]; exact hr j h1 (by omega)
theorem toReps_ (l : List LR) (hl : l.length ≤ 1048576) (k : Nat) (hk : 1048577 ≤ k) : laws_toRepairS.f k l = some (l.map cvR) := by
  unfold laws_toRepairS.f
  rw [if_pos (by omega), if_pos (by simp; omega)]
  exact toReps_l l hl l.length k 0 _ (by omega) (by omega) (by simp) (fun j h1 h2 => by omega) (by omega)

def codeT (l : List Int) (s : List IR) : Int := if okT l = true then (if s.all (stepOk l.length) = true ∧ (s.length : Int) ≤ 60 then 0 else 2) else 1
theorem codeT_says {l : List Int} {s : List IR} (h : codeT l s = 0) : okT l = true ∧ s.length ≤ 60 ∧ ∀ x ∈ s, 0 ≤ x.f0 ∧ x.f0 < l.length ∧ 0 ≤ x.f1 ∧ x.f1 ≤ 3 ∧ 0 ≤ x.f2 ∧ x.f2 ≤ 3 ∧ x.f1 ≠ x.f2 := by
  unfold codeT at h
  by_cases c : okT l = true
  · rw [if_pos c] at h
    by_cases e : s.all (stepOk l.length) = true ∧ (s.length : Int) ≤ 60
    · refine ⟨c, by omega, fun x hx => ?_⟩
      have := List.all_eq_true.1 e.1 x hx
      have hl := (okT_says c).1
      unfold stepOk at this
      rw [w64 (by omega) (by omega)] at this
      simp only [Bool.and_eq_true, decide_eq_true_eq] at this
      omega
    · rw [if_neg e] at h; omega
  · rw [if_neg c] at h; omega

theorem In_ (a b c : Int) : spec_l00In.f a b c = some (decide (b ≤ a ∧ a ≤ c)) := by
  unfold spec_l00In.f
  by_cases h : a ≥ b
  · rw [if_pos h]; simp [show b ≤ a from h]
  · rw [if_neg h]; simp [show ¬ b ≤ a from h]

theorem specOkT_l (l : List Int) (hl : l.length ≤ 1048576) : ∀ (d k : Nat) (i : Int), (l.length : Int) - i = d → 0 ≤ i → d < k → spec_l22Ok.l0 k l i = some ((l.drop i.toNat).all (fun x => decide (0 ≤ x ∧ x ≤ 3)) && decide ((l.length : Int) ≤ 40)) := by
  intro d
  induction d with
  | zero =>
    intro k i hd h0 hk
    obtain ⟨k, rfl⟩ : ∃ m, k = m + 1 := ⟨k - 1, by omega⟩
    simp only [spec_l22Ok.l0]; rw [if_neg (by omega), List.drop_eq_nil_of_le (by omega)]; simp
  | succ d ih =>
    intro k i hd h0 hk
    obtain ⟨k, rfl⟩ : ∃ m, k = m + 1 := ⟨k - 1, by omega⟩
    simp only [spec_l22Ok.l0]
    rw [if_pos (by omega), if_pos h0, In_, drop_rd l i h0 (by omega), w64 (by omega) (by omega), ih k (i + 1) (by omega) (by omega) (by omega)]
    simp only [Option.bind_some, List.all_cons]
    by_cases c : 0 ≤ rd l i ∧ rd l i ≤ 3
    · simp [c]
    · simp [c]
theorem SpecOkT_ (l : List Int) (hl : l.length ≤ 1048576) (k : Nat) (hk : l.length < k) : spec_l22Ok.f k l = some (okT l) := by
  unfold spec_l22Ok.f okT
  rw [specOkT_l l hl l.length k 0 (by omega) (by omega) hk]
  simp [Bool.and_comm]

theorem SpecCodeT_ (l : List Int) (hl : l.length ≤ 1048576) (s : List IR) (k : Nat) (hk : 1048577 ≤ k) : spec_l22Code.f k l s = some (codeT l s) := by
  unfold spec_l22Code.f codeT
  rw [SpecOkT_ l hl k (by omega)]; simp only [Option.bind_some]
  by_cases c : okT l = true
  · rw [if_pos c, if_pos c]
    by_cases e : s.all (stepOk l.length) = true
    · rw [if_pos e]
      by_cases f : (s.length : Int) > 60
      · rw [if_pos f, if_neg (by omega)]
      · rw [if_neg f, if_pos ⟨e, by omega⟩]
    · rw [if_neg e, if_neg (fun h => e h.1)]
  · rw [if_neg c, if_neg c]

theorem ImplOkT_ (l : List Int) : impl_ValidStates.f l = some (okT l) := by
  unfold impl_ValidStates.f impl_allWithin.f okT
  by_cases h2 : (l.length : Int) ≤ 40
  · rw [if_pos h2, decide_eq_true h2]; simp
  · rw [if_neg h2, decide_eq_false h2]; simp

theorem ImplCodeT_ (l : List Int) (s : List IR) : impl_stepsCode.f l s = some (codeT l s) := by
  unfold impl_stepsCode.f codeT impl_check.f
  rw [ImplOkT_ l]; simp only [Option.bind_some]
  by_cases c : okT l = true
  · by_cases e : s.all (stepOk l.length) = true
    · by_cases f : (s.length : Int) ≤ 60
      · simp only [c, e, eq_true f, decide_true, Bool.and_self, if_true, and_self]
      · simp only [c, e, eq_false f, decide_false, Bool.false_and, if_true, and_false, if_false, Bool.false_eq_true]
    · have he := Bool.eq_false_iff.mpr e
      simp only [c, he, Bool.and_false, if_true, false_and, if_false, Bool.false_eq_true]
  · have hc := Bool.eq_false_iff.mpr c
    simp only [hc, if_false, Bool.false_eq_true]

theorem own22_ (l : List Int) (hl : l.length ≤ 1048576) : spec_l00Own.f l = some l := by
  unfold spec_l00Own.f
  simp only [Option.bind_some]
  rw [if_pos (by simp; omega)]; simp

/-- Steps applied in a row. -/
def appl : List IR → List Int → List Int × Int
  | [], a => (a, 0)
  | x :: xs, a => if rd a x.f0 = x.f1 then appl xs (a.set x.f0.toNat x.f2) else ([], 9)
theorem appl_len : ∀ (s : List IR) (a : List Int), (appl s a).1.length ≤ a.length
  | [], a => Nat.le_refl _
  | x :: xs, a => by
    have := appl_len xs (a.set x.f0.toNat x.f2)
    unfold appl
    split
    · simpa using this
    · simp
theorem specUndo_l (n : Nat) (s : List IR) (hs : s.length ≤ 1000) (hok : ∀ x ∈ s, 0 ≤ x.f0 ∧ x.f0 < n) : ∀ (i : Nat) (a : List Int), i ≤ s.length → a.length = n → Ev (fun k => spec_UndoRepairs.l0 k s a ((i : Int) - 1)) (appl ((s.take i).reverse.map turn) a) := by
  intro i
  induction i with
  | zero =>
    intro a _ ha
    refine Ev.now (fun k => ?_)
    simp only [spec_UndoRepairs.l0]
    rw [if_neg (by omega)]; simp [appl]
  | succ i ih =>
    intro a hi ha
    obtain ⟨b1, b2⟩ := hok (rd_T64 s (i : Int)) (gd_in _ _ _ (by omega) (by omega))
    have hx : (s.take (i + 1)).reverse.map turn = turn (rd_T64 s (i : Int)) :: (s.take i).reverse.map turn := by
      rw [List.take_succ_eq_append_getElem (by omega), List.reverse_append]
      have : rd_T64 s (i : Int) = s[i] := by unfold rd_T64; rw [Int.toNat_natCast, List.getD_eq_getElem?_getD, List.getElem?_eq_getElem (by omega)]; rfl
      rw [this]; rfl
    rw [hx]
    unfold appl
    have e : ∀ k, spec_UndoRepairs.l0 (k + 1) s a (((i + 1 : Nat) : Int) - 1) = if rd a (rd_T64 s (i : Int)).f0 = (rd_T64 s (i : Int)).f2 then spec_UndoRepairs.l0 k s (a.set (rd_T64 s (i : Int)).f0.toNat (rd_T64 s (i : Int)).f1) ((i : Int) - 1) else some ([], 9) := by
      intro k
      rw [show ((i + 1 : Nat) : Int) - 1 = (i : Int) by omega]
      simp only [spec_UndoRepairs.l0]
      rw [if_pos (by omega), if_pos (by omega), if_pos (by omega), if_pos b1, if_pos (by omega), w64 (n := (i : Int) - 1) (by omega) (by omega)]
    by_cases c : rd a (rd_T64 s (i : Int)).f0 = (rd_T64 s (i : Int)).f2
    · rw [if_pos (show rd a (turn (rd_T64 s (i : Int))).f0 = (turn (rd_T64 s (i : Int))).f1 from c)]
      exact Ev.step (fun k => by rw [e, if_pos c]; rfl) (ih _ (by omega) (by simpa using ha))
    · rw [if_neg (show ¬ rd a (turn (rd_T64 s (i : Int))).f0 = (turn (rd_T64 s (i : Int))).f1 from c)]
      exact Ev.now (fun k => by rw [e, if_neg c])
theorem implAppl_l (n : Nat) (s : List IR) (hs : s.length ≤ 1000) (hok : ∀ x ∈ s, 0 ≤ x.f0 ∧ x.f0 < n) : ∀ (d i : Nat) (a : List Int), s.length - i = d → i ≤ s.length → a.length = n → Ev (fun k => impl_applyRepairs.l0 k a s (s.length : Int) (i : Int)) (appl (s.drop i) a) := by
  intro d
  induction d with
  | zero =>
    intro i a hd hi ha
    refine Ev.now (fun k => ?_)
    simp only [impl_applyRepairs.l0]
    rw [if_neg (by omega), List.drop_eq_nil_of_le (by omega)]; rfl
  | succ d ih =>
    intro i a hd hi ha
    obtain ⟨b1, b2⟩ := hok (rd_T64 s (i : Int)) (gd_in _ _ _ (by omega) (by omega))
    have hx : s.drop i = rd_T64 s (i : Int) :: s.drop (i + 1) := by
      rw [List.drop_eq_getElem_cons (by omega)]
      have : rd_T64 s (i : Int) = s[i] := by unfold rd_T64; rw [Int.toNat_natCast, List.getD_eq_getElem?_getD, List.getElem?_eq_getElem (by omega)]; rfl
      rw [this]
    rw [hx]
    unfold appl
    have e : ∀ k, impl_applyRepairs.l0 (k + 1) a s (s.length : Int) (i : Int) = if rd a (rd_T64 s (i : Int)).f0 = (rd_T64 s (i : Int)).f1 then impl_applyRepairs.l0 k (a.set (rd_T64 s (i : Int)).f0.toNat (rd_T64 s (i : Int)).f2) s (s.length : Int) ((i + 1 : Nat) : Int) else some ([], 9) := by
      intro k
      simp only [impl_applyRepairs.l0]
      rw [if_pos (by omega), if_pos (by omega), if_pos (by omega), if_pos b1, if_pos (by omega), w64 (n := (i : Int) + 1) (by omega) (by omega)]; rfl
    by_cases c : rd a (rd_T64 s (i : Int)).f0 = (rd_T64 s (i : Int)).f1
    · rw [if_pos c]
      exact Ev.step (fun k => by rw [e, if_pos c]) (ih (i + 1) _ (by omega) (by omega) (by simpa using ha))
    · rw [if_neg c]
      exact Ev.now (fun k => by rw [e, if_neg c])
/-- What undoing gives. -/
def undoR (l : List Int) (s : List IR) : List Int × Int := if codeT l s = 0 then appl (s.reverse.map turn) l else ([], codeT l s)
theorem undoR_len (l : List Int) (s : List IR) : (undoR l s).1.length ≤ l.length := by
  unfold undoR
  split
  · exact appl_len _ _
  · simp
theorem SpecUndo_ (l : List Int) (hl : l.length ≤ 1048576) (s : List IR) : Ev (fun k => spec_UndoRepairs.f k l s) (undoR l s) := by
  refine Ev.eq (h := fun k => (spec_l22Code.f k l s).bind fun t => if t = 0 then ((spec_l00Own.f l).bind fun t => spec_UndoRepairs.l0 k s t (wrap64 ((s.length : Int) - 1))) else some ([], t)) (fun k => rfl) (Ev.bind (t := codeT l s) ⟨1048577, fun k hk => SpecCodeT_ l hl s k hk⟩ ?_)
  unfold undoR
  by_cases c : codeT l s = 0
  · obtain ⟨h1, h2, h3⟩ := codeT_says c
    have := specUndo_l l.length s (by omega) (fun x hx => ⟨(h3 x hx).1, (h3 x hx).2.1⟩) s.length l (Nat.le_refl _) rfl
    rw [List.take_length] at this
    rw [if_pos c]
    refine Ev.eq (fun k => ?_) this
    rw [if_pos c, own22_ l hl, w64 (by omega) (by omega)]; rfl
  · rw [if_neg c]
    exact ⟨0, fun k _ => if_neg c⟩
theorem ImplUndo_ (l : List Int) (hl : l.length ≤ 1048576) (s : List IR) : Ev (fun k => impl_UndoRepairs.f k l s) (undoR l s) := by
  refine Ev.eq (h := fun k => if codeT l s = 0 then (if s.length ≤ 1000 then impl_applyRepairs.f k l (s.reverse.map turn) else none) else some ([], codeT l s)) (fun k => by unfold impl_UndoRepairs.f; rw [ImplCodeT_]; rfl) ?_
  unfold undoR
  by_cases c : codeT l s = 0
  · obtain ⟨h1, h2, h3⟩ := codeT_says c
    rw [if_pos c]
    have := implAppl_l l.length (s.reverse.map turn) (by simp; omega) (fun x hx => by
      obtain ⟨y, hy, rfl⟩ := List.mem_map.1 hx
      have := h3 y (List.mem_reverse.1 hy)
      exact ⟨this.1, this.2.1⟩) (s.reverse.map turn).length 0 l rfl (by omega) rfl
    rw [List.drop_zero] at this
    refine Ev.eq (fun k => ?_) this
    rw [if_pos c, if_pos (by omega)]
    have e : slices_Clone_int64_int64.f l = some l := by unfold slices_Clone_int64_int64.f; rw [if_pos (by omega)]
    unfold impl_applyRepairs.f
    rw [e]; rfl
  · rw [if_neg c]
    exact ⟨0, fun k _ => if_neg c⟩

theorem toInts_l (l : List Int) (hl : l.length ≤ 1048576) : ∀ (d k : Nat) (i : Int) (a : List Int), (l.length : Int) - i = d → 0 ≤ i → a.length = l.length → (∀ j : Int, 0 ≤ j → j < i → rd a j = rd l j) → d < k → laws_toInt64S.l0 k l a i = some l := by
  intro d
  induction d with
  | zero =>
    intro k i a hd h0 ha hr hk
    obtain ⟨k, rfl⟩ : ∃ m, k = m + 1 := ⟨k - 1, by omega⟩
    simp only [laws_toInt64S.l0]; rw [if_neg (by omega)]
    congr 1
    exact rd_ext a l ha (fun j h1 h2 => hr j h1 (by omega))
  | succ d ih =>
    intro k i a hd h0 ha hr hk
    obtain ⟨k, rfl⟩ : ∃ m, k = m + 1 := ⟨k - 1, by omega⟩
    simp only [laws_toInt64S.l0]
    rw [if_pos (by omega), if_pos h0, if_pos (by omega), w64 (by omega) (by omega)]
    refine ih k (i + 1) _ (by omega) (by omega) (by simpa using ha) (fun j h1 h2 => ?_) (by omega)
    by_cases e : j = i
    · subst e; exact rd_same _ _ _ h0 (by omega)
    · rw [rd_other _ _ _ _ h0 h1 (by omega)]; exact hr j h1 (by omega)
theorem toInts_ (l : List Int) (hl : l.length ≤ 1048576) (k : Nat) (hk : 1048577 ≤ k) : laws_toInt64S.f k l = some l := by
  unfold laws_toInt64S.f
  rw [if_pos (by omega), if_pos (by simp; omega)]
  exact toInts_l l hl l.length k 0 _ (by omega) (by omega) (by simp) (fun j h1 h2 => by omega) (by omega)

theorem eqInts_l (l : List Int) (hl : l.length ≤ 1152921504606846976) : ∀ (d k : Nat) (i : Int), (l.length : Int) - i = d → 0 ≤ i → d < k → laws_eqInt64S.l0 k l l i = some true := by
  intro d
  induction d with
  | zero =>
    intro k i hd h0 hk
    obtain ⟨k, rfl⟩ : ∃ m, k = m + 1 := ⟨k - 1, by omega⟩
    simp only [laws_eqInt64S.l0]; rw [if_neg (by omega)]
  | succ d ih =>
    intro k i hd h0 hk
    obtain ⟨k, rfl⟩ : ∃ m, k = m + 1 := ⟨k - 1, by omega⟩
    simp only [laws_eqInt64S.l0]
    rw [if_pos (by omega), if_pos h0, if_pos (by omega), if_pos trivial, w64 (by omega) (by omega)]
    exact ih k (i + 1) (by omega) (by omega) (by omega)
theorem eqInts_ (l : List Int) (hl : l.length ≤ 1152921504606846976) (k : Nat) (hk : l.length < k) : laws_eqInt64S.f k l l = some true := by
  unfold laws_eqInt64S.f
  rw [if_pos rfl]; exact eqInts_l l hl l.length k 0 (by omega) (by omega) hk

theorem eqI_ (l : List Int) (hl : l.length ≤ 1048576) (k : Nat) (hk : 1048577 ≤ k) : laws_eqInt64S.f k l l = some true := eqInts_ l (by omega) k (by omega)

theorem rd_set_same (l : List Int) (i : Int) (v : Int) (h0 : 0 ≤ i) (h : i < l.length) : rd (l.set i.toNat v) i = v := by
  unfold rd; simp [List.getD_eq_getElem?_getD, List.getElem?_set, show i.toNat < l.length by omega]
theorem rd_set_other (l : List Int) (i j : Int) (v : Int) (h0 : 0 ≤ i) (h1 : 0 ≤ j) (h : i ≠ j) : rd (l.set i.toNat v) j = rd l j := by
  unfold rd; simp [List.getD_eq_getElem?_getD, List.getElem?_set, show ¬ i.toNat = j.toNat by omega]
theorem mark_l : ∀ (d k : Nat) (l : List Int) (i m : Int), (l.length : Int) - i = d → 0 ≤ i → l.length ≤ 1152921504606846976 → 0 ≤ m → m + d ≤ 4611686018427387904 → d < k → ∃ l', laws_markInt64S.l0 k l m i = some (m + d, l') ∧ l'.length = l.length ∧ (∀ j, i ≤ j → j < l.length → rd l' j = m + (j - i)) ∧ ∀ j, 0 ≤ j → j < i → rd l' j = rd l j := by
  intro d
  induction d with
  | zero =>
    intro k l i m hd h0 hl hm hm2 hk
    obtain ⟨k, rfl⟩ : ∃ m, k = m + 1 := ⟨k - 1, by omega⟩
    refine ⟨l, ?_, rfl, fun j h1 h2 => by omega, fun j _ _ => rfl⟩
    simp only [laws_markInt64S.l0]; rw [if_neg (by omega)]; simp
  | succ d ih =>
    intro k l i m hd h0 hl hm hm2 hk
    obtain ⟨k, rfl⟩ : ∃ m, k = m + 1 := ⟨k - 1, by omega⟩
    obtain ⟨l', h1, h2, h3, h4⟩ := ih k (l.set i.toNat m) (i + 1) (m + 1) (by simp; omega) (by omega) (by simpa using hl) (by omega) (by omega) (by omega)
    refine ⟨l', ?_, by simpa using h2, fun j g1 g2 => ?_, fun j g1 g2 => ?_⟩
    · simp only [laws_markInt64S.l0]
      rw [if_pos (by omega), if_pos h0, w64 (n := m + 1) (by omega) (by omega), w64 (n := i + 1) (by omega) (by omega), h1]
      congr 2; omega
    · by_cases e : j = i
      · subst e; rw [h4 j h0 (by omega), rd_set_same _ _ _ h0 (by omega)]; omega
      · rw [h3 j (by omega) (by simpa using g2)]; omega
    · rw [h4 j g1 (by omega), rd_set_other _ _ _ _ h0 g1 (by omega)]

theorem held_l (l : List Int) (hl : l.length ≤ 1152921504606846976) : ∀ (d k : Nat) (i m : Int), (l.length : Int) - i = d → 0 ≤ i → 0 ≤ m → m + d ≤ 4611686018427387904 → d < k → (∀ j, i ≤ j → j < l.length → rd l j = m + (j - i)) → laws_heldInt64S.l0 k l m i = some (m + d) := by
  intro d
  induction d with
  | zero =>
    intro k i m hd h0 hm hm2 hk hr
    obtain ⟨k, rfl⟩ : ∃ m, k = m + 1 := ⟨k - 1, by omega⟩
    simp only [laws_heldInt64S.l0]; rw [if_neg (by omega)]; simp
  | succ d ih =>
    intro k i m hd h0 hm hm2 hk hr
    obtain ⟨k, rfl⟩ : ∃ m, k = m + 1 := ⟨k - 1, by omega⟩
    simp only [laws_heldInt64S.l0]
    rw [if_pos (by omega), if_pos h0, if_pos (by rw [hr i (by omega) (by omega)]; omega), w64 (n := m + 1) (by omega) (by omega), w64 (n := i + 1) (by omega) (by omega), ih k (i + 1) (m + 1) (by omega) (by omega) (by omega) (by omega) (by omega) (fun j g1 g2 => by rw [hr j (by omega) g2]; omega)]
    congr 1; omega
theorem mark_held (l : List Int) (hl : l.length ≤ 1152921504606846976) (k : Nat) (hk : l.length < k) (k' : Nat) (hk' : l.length < k') (k'' : Nat) (hk'' : l.length < k'') : ∃ l', laws_markInt64S.f k l 1 = some (1 + (l.length : Int), l') ∧ laws_heldInt64S.f k' l' 1 = some (1 + (l.length : Int)) ∧ laws_heldInt64S.f k'' l' 1 = some (1 + (l.length : Int)) := by
  obtain ⟨l', h1, h2, h3, h4⟩ := mark_l l.length k l 0 1 (by omega) (by omega) hl (by omega) (by omega) hk
  have hh : ∀ k, l.length < k → laws_heldInt64S.l0 k l' 1 0 = some (1 + (l.length : Int)) := fun k hk => held_l l' (by omega) l.length k 0 1 (by omega) (by omega) (by omega) (by omega) hk (fun j g1 g2 => h3 j g1 (by omega))
  refine ⟨l', ?_, ?_, ?_⟩
  · unfold laws_markInt64S.f; exact h1
  · unfold laws_heldInt64S.f; exact hh k' hk'
  · unfold laws_heldInt64S.f; exact hh k'' hk''

theorem mkI_ (l : List Int) (hl : l.length ≤ 1048576) (m : Int) (h0 : 0 ≤ m) (h1 : m ≤ 1000000000) : ∃ l', ∀ k, 1048577 ≤ k → laws_markInt64S.f k l m = some (m + (l.length : Int), l') := by
  obtain ⟨l', h, _⟩ := mark_l l.length 1048577 l 0 m (by omega) (by omega) (by omega) (by omega) (by omega) (by omega)
  refine ⟨l', fun k hk => ?_⟩
  exact at_rounds (g := fun k => laws_markInt64S.f k l m) (fun k => laws_markInt64S.mono _ _ _) hk (by unfold laws_markInt64S.f; exact h)

theorem mkH_ (l : List Int) (hl : l.length ≤ 1048576) : ∃ l', (∀ k, 1048577 ≤ k → laws_markInt64S.f k l 1 = some (1 + (l.length : Int), l')) ∧ ∀ k, 1048577 ≤ k → laws_heldInt64S.f k l' 1 = some (1 + (l.length : Int)) := by
  obtain ⟨l', h1, h2, h3⟩ := mark_held l (by omega) 1048577 (by omega) 1048577 (by omega) 1048577 (by omega)
  refine ⟨l', fun k hk => ?_, fun k hk => ?_⟩
  · exact at_rounds (g := fun k => laws_markInt64S.f k l 1) (fun k => laws_markInt64S.mono _ _ _) hk h1
  · exact at_rounds (g := fun k => laws_heldInt64S.f k l' 1) (fun k => laws_heldInt64S.mono _ _ _) hk h2

theorem eqReps_l (l : List IR) (hl : l.length ≤ 1048576) : ∀ (d k : Nat) (i : Int), (l.length : Int) - i = d → 0 ≤ i → d < k → laws_eqRepairS.l0 k l l i = some true := by
  intro d
  induction d with
  | zero =>
    intro k i hd h0 hk
    obtain ⟨k, rfl⟩ : ∃ m, k = m + 1 := ⟨k - 1, by omega⟩
    simp only [laws_eqRepairS.l0]; rw [if_neg (by omega)]
  | succ d ih =>
    intro k i hd h0 hk
    obtain ⟨k, rfl⟩ : ∃ m, k = m + 1 := ⟨k - 1, by omega⟩
    simp only [laws_eqRepairS.l0]
    rw [if_pos (by omega), if_pos h0, if_pos (by omega)]; simp only [laws_eqRepair.f, if_true, Option.bind_some]
    rw [w64 (by omega) (by omega)]
    exact ih k (i + 1) (by omega) (by omega) (by omega)
theorem eqReps_ (l : List IR) (hl : l.length ≤ 1048576) (k : Nat) (hk : 1048577 ≤ k) : laws_eqRepairS.f k l l = some true := by
  unfold laws_eqRepairS.f
  rw [if_pos rfl]; exact eqReps_l l hl l.length k 0 (by omega) (by omega) (by omega)

theorem mkReps_l : ∀ (d : Nat) (l : List IR) (i m : Int), l.length ≤ 1048576 → (l.length : Int) - i = d → 0 ≤ i → 0 ≤ m → m + 3 * d ≤ 1000000000 → ∃ l', ∀ k, d < k → laws_markRepairS.l0 k l m i = some (m + 3 * d, l') := by
  intro d
  induction d with
  | zero =>
    intro l i m hl hd h0 hm hm2
    refine ⟨l, fun k hk => ?_⟩
    obtain ⟨k, rfl⟩ : ∃ j, k = j + 1 := ⟨k - 1, by omega⟩
    simp only [laws_markRepairS.l0]; rw [if_neg (by omega)]; simp
  | succ d ih =>
    intro l i m hl hd h0 hm hm2
    have key : ∀ a : List IR, a.length = l.length → ∃ l', ∀ k, d < k → laws_markRepairS.l0 k a (m + 3) (i + 1) = some (m + 3 + 3 * d, l') := fun a ha => ih a (i + 1) (m + 3) (by omega) (by omega) (by omega) (by omega) (by omega)
    have e1 : wrap64 (m + 1) = m + 1 := w64 (by omega) (by omega)
    have e2 : wrap64 (m + 1 + 1) = m + 2 := by rw [w64 (by omega) (by omega)]; omega
    have e3 : wrap64 (m + 2 + 1) = m + 3 := by rw [w64 (by omega) (by omega)]; omega
    have e4 : wrap64 (i + 1) = i + 1 := w64 (by omega) (by omega)
    have step : ∀ k, laws_markRepairS.l0 (k + 1) l m i = laws_markRepairS.l0 k (((l.set i.toNat (⟨m, (rd_T64 l i).f1, (rd_T64 l i).f2⟩ : IR)).set i.toNat (⟨(rd_T64 (l.set i.toNat (⟨m, (rd_T64 l i).f1, (rd_T64 l i).f2⟩ : IR)) i).f0, m + 1, (rd_T64 (l.set i.toNat (⟨m, (rd_T64 l i).f1, (rd_T64 l i).f2⟩ : IR)) i).f2⟩ : IR)).set i.toNat (⟨(rd_T64 ((l.set i.toNat (⟨m, (rd_T64 l i).f1, (rd_T64 l i).f2⟩ : IR)).set i.toNat (⟨(rd_T64 (l.set i.toNat (⟨m, (rd_T64 l i).f1, (rd_T64 l i).f2⟩ : IR)) i).f0, m + 1, (rd_T64 (l.set i.toNat (⟨m, (rd_T64 l i).f1, (rd_T64 l i).f2⟩ : IR)) i).f2⟩ : IR)) i).f0, (rd_T64 ((l.set i.toNat (⟨m, (rd_T64 l i).f1, (rd_T64 l i).f2⟩ : IR)).set i.toNat (⟨(rd_T64 (l.set i.toNat (⟨m, (rd_T64 l i).f1, (rd_T64 l i).f2⟩ : IR)) i).f0, m + 1, (rd_T64 (l.set i.toNat (⟨m, (rd_T64 l i).f1, (rd_T64 l i).f2⟩ : IR)) i).f2⟩ : IR)) i).f1, m + 2⟩ : IR)) (m + 3) (i + 1) := fun k => by
      simp only [laws_markRepairS.l0]
      rw [if_pos (by omega), if_pos h0]; simp only [Option.bind_some, e1, e2, e3, e4]
    obtain ⟨a, ha, st⟩ : ∃ a : List IR, a.length = l.length ∧ ∀ k, laws_markRepairS.l0 (k + 1) l m i = laws_markRepairS.l0 k a (m + 3) (i + 1) := ⟨_, by simp, step⟩
    obtain ⟨l', h⟩ := key a ha
    refine ⟨l', fun k hk => ?_⟩
    obtain ⟨k, rfl⟩ : ∃ j, k = j + 1 := ⟨k - 1, by omega⟩
    rw [st, h k (by omega)]
    congr 2; omega
theorem mkReps_ (l : List IR) (hl : l.length ≤ 1048576) (m : Int) (h0 : 0 ≤ m) (h1 : m ≤ 100000000) : ∃ l', ∀ k, 1048577 ≤ k → laws_markRepairS.f k l m = some (m + 3 * (l.length : Int), l') := by
  obtain ⟨l', h⟩ := mkReps_l l.length l 0 m hl (by omega) (by omega) h0 (by omega)
  exact ⟨l', fun k hk => h k (by omega)⟩

theorem FnExactUndoRepairs : laws_FnExactUndoRepairs.Pure := by
  intro l s _ _ _ hsm _ _
  by_cases hb : (l.length : Int) > 1048576
  · exact ⟨0, by unfold laws_FnExactUndoRepairs.f; rw [if_pos hb]⟩
  have hl : l.length ≤ 1048576 := by omega
  obtain ⟨z, hz, hza, hA⟩ := szReps_ s hsm 1048576 (by omega) (by omega)
  by_cases c : z < 0
  · exact ⟨0, by unfold laws_FnExactUndoRepairs.f; rw [if_neg hb, hA]; simp only [Option.bind_some]; rw [if_pos c]⟩
  have hs := hza (by omega)
  have hsm' : (s.map cvR).length ≤ 1048576 := by simpa using hs
  have hT := toInts_ l hl
  have hT2 := toReps_ s hs
  have hE := eqI_ l hl
  have hE2 := eqReps_ (s.map cvR) hsm'
  obtain ⟨K1, hS⟩ := SpecUndo_ l hl (s.map cvR)
  obtain ⟨K2, hI⟩ := ImplUndo_ l hl (s.map cvR)
  dsimp only at hS hI
  have hrl := undoR_len l (s.map cvR)
  generalize undoR l (s.map cvR) = r at hS hI hrl
  obtain ⟨R, q⟩ := r
  have hrl : R.length ≤ 1048576 := Nat.le_trans hrl hl
  have hER := eqI_ R hrl
  obtain ⟨l', hM⟩ := mkI_ l hl 1 (by omega) (by omega)
  obtain ⟨s', hM2⟩ := mkReps_ (s.map cvR) hsm' (1 + (l.length : Int)) (by omega) (by omega)
  obtain ⟨R', hMR, hH⟩ := mkH_ R hrl
  have n1 : ¬ (1 + (l.length : Int) + 3 * ((s.map cvR).length : Int) < 0) := by omega
  have n2 : ¬ (1 + (R.length : Int) < 0) := by omega
  refine ⟨1048800 + (K1 + K2), ?_⟩
  generalize hk : 1048800 + (K1 + K2) = k
  unfold laws_FnExactUndoRepairs.f
  rw [if_neg hb, hA]; simp only [Option.bind_some]
  rw [if_neg c, hT _ (by omega)]; simp only [Option.bind_some]
  rw [hT2 _ (by omega)]; simp only [Option.bind_some]
  rw [hS _ (by omega)]; simp only [Option.bind_some]
  rw [hI _ (by omega)]; simp only [Option.bind_some]
  rw [hER _ (by omega)]; simp only [Option.bind_some, if_true, bne_self_eq_false]
  obtain ⟨k, rfl⟩ : ∃ m, k = m + 1 := ⟨k - 1, by omega⟩
  simp only [laws_FnExactUndoRepairs.j0, Bool.false_eq_true, if_false]
  rw [hT _ (by omega)]; simp only [Option.bind_some]
  rw [hE _ (by omega)]; simp only [Option.bind_some, if_true]
  rw [hT2 _ (by omega)]; simp only [Option.bind_some]
  rw [hE2 _ (by omega)]; simp only [Option.bind_some, if_true]
  rw [hM _ (by omega)]; simp only [Option.bind_some]
  rw [hM2 _ (by omega)]; simp only [Option.bind_some]
  rw [if_neg n1, hER _ (by omega)]; simp only [Option.bind_some, if_true, bne_self_eq_false]
  obtain ⟨k, rfl⟩ : ∃ m, k = m + 1 := ⟨k - 1, by omega⟩
  simp only [laws_FnExactUndoRepairs.j1, Bool.false_eq_true, if_false]
  rw [hMR _ (by omega)]; simp only [Option.bind_some]
  rw [hH _ (by omega)]; simp only [Option.bind_some]
  rw [if_neg n2]; simp only [if_true]; rw [hT _ (by omega)]; simp only [Option.bind_some]
  rw [hT2 _ (by omega)]; simp only [Option.bind_some]
  rw [hI _ (by omega)]; simp only [Option.bind_some]
  rw [hER _ (by omega)]; simp only [Option.bind_some, if_true, bne_self_eq_false]
  obtain ⟨k, rfl⟩ : ∃ m, k = m + 1 := ⟨k - 1, by omega⟩
  simp only [laws_FnExactUndoRepairs.j2, Bool.false_eq_true, if_false]
  rw [hH _ (by omega)]; simp only [Option.bind_some]
  rw [if_neg n2]; simp

end Go.Proofs.Ytfajacoagaamlaa.Pure
