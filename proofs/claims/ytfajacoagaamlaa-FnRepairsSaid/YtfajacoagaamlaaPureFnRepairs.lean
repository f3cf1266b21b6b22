/- At all drawn states, steps, copies and texts: steps that are undone lead back, repairs leave nothing damaged, and states that are told as a text are read back. No condition. -/
import Derived.Test.YtfajacoagaamlaaQFnRepairsx10
import Derived.Test.YtfajacoagaamlaaBase
namespace Go.Proofs.Ytfajacoagaamlaa.Pure
open Go Go.RowKit Go.Proofs.Ytfajacoagaamlaa.QFnRepairs Go.Proofs.YtfajacoagaamlaaW.PrintWords Go.Proofs.YtfajacoagaamlaaW.PrintLast Go.Proofs.YtfajacoagaamlaaW.PrintMore Go.Proofs.Ytfajacoagaamlaa.Base
set_option linter.unusedVariables false
set_option linter.unusedSimpArgs false

/-- From some number of rounds on the answer is r. -/
def Ev {α : Type} (g : Nat → Option α) (r : α) : Prop := ∃ K, ∀ k, K ≤ k → g k = some r
theorem Ev.step {α : Type} {g h : Nat → Option α} {r : α} (e : ∀ k, g (k + 1) = h k) (hr : Ev h r) : Ev g r := by
  obtain ⟨K, hK⟩ := hr
  refine ⟨K + 1, fun k hk => ?_⟩
  obtain ⟨k, rfl⟩ : ∃ m, k = m + 1 := ⟨k - 1, by omega⟩
  rw [e]; exact hK k (by omega)
theorem Ev.now {α : Type} {g : Nat → Option α} {r : α} (e : ∀ k, g (k + 1) = some r) : Ev g r := Ev.step (h := fun _ => some r) e ⟨0, fun _ _ => rfl⟩
theorem Ev.bind {α β : Type} {c : Nat → Option α} {f : Nat → α → Option β} {t : α} {r : β} (hc : Ev c t) (hf : Ev (fun k => f k t) r) : Ev (fun k => (c k).bind (f k)) r := by
  obtain ⟨K, hK⟩ := hc
  obtain ⟨L, hL⟩ := hf
  exact ⟨K + L, fun k hk => by show (c k).bind (f k) = some r; rw [hK k (by omega)]; exact hL k (by omega)⟩
theorem Ev.eq {α : Type} {g h : Nat → Option α} {r : α} (e : ∀ k, g k = h k) (hr : Ev h r) : Ev g r := by
  obtain ⟨K, hK⟩ := hr
  exact ⟨K, fun k hk => by rw [e]; exact hK k hk⟩

theorem gd_ext {α : Type} (z : α) (a l : List α) (h : a.length = l.length) (h2 : ∀ j : Int, 0 ≤ j → j < l.length → a.getD j.toNat z = l.getD j.toNat z) : a = l := by
  apply List.ext_getElem h
  intro n h1 h3
  have := h2 n (by omega) (by omega)
  rw [List.getD_eq_getElem?_getD, List.getD_eq_getElem?_getD, Int.toNat_natCast, List.getElem?_eq_getElem h1, List.getElem?_eq_getElem h3] at this
  exact this
theorem gd_same {α : Type} (z : α) (l : List α) (i : Int) (v : α) (h0 : 0 ≤ i) (h : i < l.length) : (l.set i.toNat v).getD i.toNat z = v := by
  simp [List.getD_eq_getElem?_getD, List.getElem?_set, show i.toNat < l.length by omega]
theorem gd_other {α : Type} (z : α) (l : List α) (i j : Int) (v : α) (h0 : 0 ≤ i) (h1 : 0 ≤ j) (h : i ≠ j) : (l.set i.toNat v).getD j.toNat z = l.getD j.toNat z := by
  simp [List.getD_eq_getElem?_getD, List.getElem?_set, show ¬ i.toNat = j.toNat by omega]
theorem gd_in {α : Type} (z : α) (l : List α) (i : Int) (h0 : 0 ≤ i) (h : i < l.length) : l.getD i.toNat z ∈ l := by
  rw [List.getD_eq_getElem?_getD, List.getElem?_eq_getElem (by omega)]
  exact List.getElem_mem _
theorem gd_map {α β : Type} (z : α) (y : β) (f : α → β) (l : List α) (i : Int) (h0 : 0 ≤ i) (h : i < l.length) : (l.map f).getD i.toNat y = f (l.getD i.toNat z) := by
  rw [List.getD_eq_getElem?_getD, List.getD_eq_getElem?_getD, List.getElem?_map, List.getElem?_eq_getElem (by omega)]
  rfl
theorem size64 {n : Nat} (h : n ≤ maxLen) : (n : Int) ≤ 9223372036854775807 := by
  have e : maxLen = 9223372036854775807 := by decide
  omega

abbrev IR := S64

def okT (l : List Int) : Bool := decide ((l.length : Int) ≤ 40) && l.all fun x => decide (0 ≤ x ∧ x ≤ 3)
theorem okT_says {l : List Int} (h : okT l = true) : l.length ≤ 40 ∧ (∀ x ∈ l, 0 ≤ x ∧ x ≤ 3) ∧ ∀ i : Int, 0 ≤ i → i < l.length → 0 ≤ rd l i ∧ rd l i ≤ 3 := by
  unfold okT at h
  simp only [Bool.and_eq_true, decide_eq_true_eq, List.all_eq_true] at h
  exact ⟨by omega, h.2, fun i h0 h1 => h.2 _ (rd_in l i h0 h1)⟩

def codeT (l : List Int) (s : List IR) : Int := if okT l = true then (if s.all (stepOk l.length) = true ∧ (s.length : Int) ≤ 60 then 0 else 2) else 1
theorem codeT_says {l : List Int} {s : List IR} (h : codeT l s = 0) : okT l = true ∧ s.length ≤ 60 ∧ ∀ x ∈ s, 0 ≤ x.f0 ∧ x.f0 < l.length ∧ 0 ≤ x.f1 ∧ x.f1 ≤ 3 ∧ 0 ≤ x.f2 ∧ x.f2 ≤ 3 ∧ x.f1 ≠ x.f2 := by
  unfold codeT at h
  by_cases c : okT l = true
  · rw [if_pos c] at h
    by_cases e : s.all (stepOk l.length) = true ∧ (s.length : Int) ≤ 60
    · refine ⟨c, by omega, fun x hx => ?_⟩
      have := List.all_eq_true.1 e.1 x hx
      have hl := (okT_says c).1
      unfold stepOk at this
      rw [w64 (by omega) (by omega)] at this
      simp only [Bool.and_eq_true, decide_eq_true_eq] at this
      omega
    · rw [if_neg e] at h; omega
  · rw [if_neg c] at h; omega

theorem In_ (a b c : Int) : spec_l00In.f a b c = some (decide (b ≤ a ∧ a ≤ c)) := by
  unfold spec_l00In.f
  by_cases h : a ≥ b
  · rw [if_pos h]; simp [show b ≤ a from h]
  · rw [if_neg h]; simp [show ¬ b ≤ a from h]

theorem specOkT_l (l : List Int) (hl : l.length ≤ 1048576) : ∀ (d k : Nat) (i : Int), (l.length : Int) - i = d → 0 ≤ i → d < k → spec_l22Ok.l0 k l i = some ((l.drop i.toNat).all (fun x => decide (0 ≤ x ∧ x ≤ 3)) && decide ((l.length : Int) ≤ 40)) := by
  intro d
  induction d with
  | zero =>
    intro k i hd h0 hk
    obtain ⟨k, rfl⟩ : ∃ m, k = m + 1 := ⟨k - 1, by omega⟩
    simp only [spec_l22Ok.l0]; rw [if_neg (by omega), List.drop_eq_nil_of_le (by omega)]; simp
  | succ d ih =>
    intro k i hd h0 hk
    obtain ⟨k, rfl⟩ : ∃ m, k = m + 1 := ⟨k - 1, by omega⟩
    simp only [spec_l22Ok.l0]
    rw [if_pos (by omega), if_pos h0, In_, drop_rd l i h0 (by omega), w64 (by omega) (by omega), ih k (i + 1) (by omega) (by omega) (by omega)]
    simp only [Option.bind_some, List.all_cons]
    by_cases c : 0 ≤ rd l i ∧ rd l i ≤ 3
    · simp [c]
    · simp [c]
theorem SpecOkT_ (l : List Int) (hl : l.length ≤ 1048576) (k : Nat) (hk : l.length < k) : spec_l22Ok.f k l = some (okT l) := by
  unfold spec_l22Ok.f okT
  rw [specOkT_l l hl l.length k 0 (by omega) (by omega) hk]
  simp [Bool.and_comm]

theorem SpecCodeT_ (l : List Int) (hl : l.length ≤ 1048576) (s : List IR) (k : Nat) (hk : 1048577 ≤ k) : spec_l22Code.f k l s = some (codeT l s) := by
  unfold spec_l22Code.f codeT
  rw [SpecOkT_ l hl k (by omega)]; simp only [Option.bind_some]
  by_cases c : okT l = true
  · rw [if_pos c, if_pos c]
    by_cases e : s.all (stepOk l.length) = true
    · rw [if_pos e]
      by_cases f : (s.length : Int) > 60
      · rw [if_pos f, if_neg (by omega)]
      · rw [if_neg f, if_pos ⟨e, by omega⟩]
    · rw [if_neg e, if_neg (fun h => e h.1)]
  · rw [if_neg c, if_neg c]

theorem ImplOkT_ (l : List Int) : impl_ValidStates.f l = some (okT l) := by
  unfold impl_ValidStates.f impl_allWithin.f okT
  by_cases h2 : (l.length : Int) ≤ 40
  · rw [if_pos h2, decide_eq_true h2]; simp
  · rw [if_neg h2, decide_eq_false h2]; simp

theorem ImplCodeT_ (l : List Int) (s : List IR) : impl_stepsCode.f l s = some (codeT l s) := by
  unfold impl_stepsCode.f codeT impl_check.f
  rw [ImplOkT_ l]; simp only [Option.bind_some]
  by_cases c : okT l = true
  · by_cases e : s.all (stepOk l.length) = true
    · by_cases f : (s.length : Int) ≤ 60
      · simp only [c, e, eq_true f, decide_true, Bool.and_self, if_true, and_self]
      · simp only [c, e, eq_false f, decide_false, Bool.false_and, if_true, and_false, if_false, Bool.false_eq_true]
    · have he := Bool.eq_false_iff.mpr e
      simp only [c, he, Bool.and_false, if_true, false_and, if_false, Bool.false_eq_true]
  · have hc := Bool.eq_false_iff.mpr c
    simp only [hc, if_false, Bool.false_eq_true]

theorem own22_ (l : List Int) (hl : l.length ≤ 1048576) : spec_l00Own.f l = some l := by
  unfold spec_l00Own.f
  simp only [Option.bind_some]
  rw [if_pos (by simp; omega)]; simp

/-- Steps applied in a row. -/
def appl : List IR → List Int → List Int × Int
  | [], a => (a, 0)
  | x :: xs, a => if rd a x.f0 = x.f1 then appl xs (a.set x.f0.toNat x.f2) else ([], 9)
theorem appl_len : ∀ (s : List IR) (a : List Int), (appl s a).1.length ≤ a.length
  | [], a => Nat.le_refl _
  | x :: xs, a => by
    have := appl_len xs (a.set x.f0.toNat x.f2)
    unfold appl
    split
    · simpa using this
    · simp
theorem specUndo_l (n : Nat) (s : List IR) (hs : s.length ≤ 1000) (hok : ∀ x ∈ s, 0 ≤ x.f0 ∧ x.f0 < n) : ∀ (i : Nat) (a : List Int), i ≤ s.length → a.length = n → Ev (fun k => spec_UndoRepairs.l0 k s a ((i : Int) - 1)) (appl ((s.take i).reverse.map turn) a) := by
  intro i
  induction i with
  | zero =>
    intro a _ ha
    refine Ev.now (fun k => ?_)
    simp only [spec_UndoRepairs.l0]
    rw [if_neg (by omega)]; simp [appl]
  | succ i ih =>
    intro a hi ha
    obtain ⟨b1, b2⟩ := hok (rd_T64 s (i : Int)) (gd_in _ _ _ (by omega) (by omega))
    have hx : (s.take (i + 1)).reverse.map turn = turn (rd_T64 s (i : Int)) :: (s.take i).reverse.map turn := by
      rw [List.take_succ_eq_append_getElem (by omega), List.reverse_append]
      have : rd_T64 s (i : Int) = s[i] := by unfold rd_T64; rw [Int.toNat_natCast, List.getD_eq_getElem?_getD, List.getElem?_eq_getElem (by omega)]; rfl
      rw [this]; rfl
    rw [hx]
    unfold appl
    have e : ∀ k, spec_UndoRepairs.l0 (k + 1) s a (((i + 1 : Nat) : Int) - 1) = if rd a (rd_T64 s (i : Int)).f0 = (rd_T64 s (i : Int)).f2 then spec_UndoRepairs.l0 k s (a.set (rd_T64 s (i : Int)).f0.toNat (rd_T64 s (i : Int)).f1) ((i : Int) - 1) else some ([], 9) := by
      intro k
      rw [show ((i + 1 : Nat) : Int) - 1 = (i : Int) by omega]
      simp only [spec_UndoRepairs.l0]
      rw [if_pos (by omega), if_pos (by omega), if_pos (by omega), if_pos b1, if_pos (by omega), w64 (n := (i : Int) - 1) (by omega) (by omega)]
    by_cases c : rd a (rd_T64 s (i : Int)).f0 = (rd_T64 s (i : Int)).f2
    · rw [if_pos (show rd a (turn (rd_T64 s (i : Int))).f0 = (turn (rd_T64 s (i : Int))).f1 from c)]
      exact Ev.step (fun k => by rw [e, if_pos c]; rfl) (ih _ (by omega) (by simpa using ha))
    · rw [if_neg (show ¬ rd a (turn (rd_T64 s (i : Int))).f0 = (turn (rd_T64 s (i : Int))).f1 from c)]
      exact Ev.now (fun k => by rw [e, if_neg c])
theorem implAppl_l (n : Nat) (s : List IR) (hs : s.length ≤ 1000) (hok : ∀ x ∈ s, 0 ≤ x.f0 ∧ x.f0 < n) : ∀ (d i : Nat) (a : List Int), s.length - i = d → i ≤ s.length → a.length = n → Ev (fun k => impl_applyRepairs.l0 k a s (s.length : Int) (i : Int)) (appl (s.drop i) a) := by
  intro d
  induction d with
  | zero =>
    intro i a hd hi ha
    refine Ev.now (fun k => ?_)
    simp only [impl_applyRepairs.l0]
    rw [if_neg (by omega), List.drop_eq_nil_of_le (by omega)]; rfl
  | succ d ih =>
    intro i a hd hi ha
    obtain ⟨b1, b2⟩ := hok (rd_T64 s (i : Int)) (gd_in _ _ _ (by omega) (by omega))
    have hx : s.drop i = rd_T64 s (i : Int) :: s.drop (i + 1) := by
      rw [List.drop_eq_getElem_cons (by omega)]
      have : rd_T64 s (i : Int) = s[i] := by unfold rd_T64; rw [Int.toNat_natCast, List.getD_eq_getElem?_getD, List.getElem?_eq_getElem (by omega)]; rfl
      rw [this]
    rw [hx]
    unfold appl
    have e : ∀ k, impl_applyRepairs.l0 (k + 1) a s (s.length : Int) (i : Int) = if rd a (rd_T64 s (i : Int)).f0 = (rd_T64 s (i : Int)).f1 then impl_applyRepairs.l0 k (a.set (rd_T64 s (i : Int)).f0.toNat (rd_T64 s (i : Int)).f2) s (s.length : Int) ((i + 1 : Nat) : Int) else some ([], 9) := by
      intro k
      simp only [impl_applyRepairs.l0]
      rw [if_pos (by omega), if_pos (by omega), if_pos (by omega), if_pos b1, if_pos (by omega), w64 (n := (i : Int) + 1) (by omega) (by omega)]; rfl
    by_cases c : rd a (rd_T64 s (i : Int)).f0 = (rd_T64 s (i : Int)).f1
    · rw [if_pos c]
      exact Ev.step (fun k => by rw [e, if_pos c]) (ih (i + 1) _ (by omega) (by omega) (by simpa using ha))
    · rw [if_neg c]
      exact Ev.now (fun k => by rw [e, if_neg c])
/-- What undoing gives. -/
def undoR (l : List Int) (s : List IR) : List Int × Int := if codeT l s = 0 then appl (s.reverse.map turn) l else ([], codeT l s)
theorem undoR_len (l : List Int) (s : List IR) : (undoR l s).1.length ≤ l.length := by
  unfold undoR
  split
  · exact appl_len _ _
  · simp
theorem SpecUndo_ (l : List Int) (hl : l.length ≤ 1048576) (s : List IR) : Ev (fun k => spec_UndoRepairs.f k l s) (undoR l s) := by
  refine Ev.eq (h := fun k => (spec_l22Code.f k l s).bind fun t => if t = 0 then ((spec_l00Own.f l).bind fun t => spec_UndoRepairs.l0 k s t (wrap64 ((s.length : Int) - 1))) else some ([], t)) (fun k => rfl) (Ev.bind (t := codeT l s) ⟨1048577, fun k hk => SpecCodeT_ l hl s k hk⟩ ?_)
  unfold undoR
  by_cases c : codeT l s = 0
  · obtain ⟨h1, h2, h3⟩ := codeT_says c
    have := specUndo_l l.length s (by omega) (fun x hx => ⟨(h3 x hx).1, (h3 x hx).2.1⟩) s.length l (Nat.le_refl _) rfl
    rw [List.take_length] at this
    rw [if_pos c]
    refine Ev.eq (fun k => ?_) this
    rw [if_pos c, own22_ l hl, w64 (by omega) (by omega)]; rfl
  · rw [if_neg c]
    exact ⟨0, fun k _ => if_neg c⟩
theorem ImplUndo_ (l : List Int) (hl : l.length ≤ 1048576) (s : List IR) : Ev (fun k => impl_UndoRepairs.f k l s) (undoR l s) := by
  refine Ev.eq (h := fun k => if codeT l s = 0 then (if s.length ≤ 1000 then impl_applyRepairs.f k l (s.reverse.map turn) else none) else some ([], codeT l s)) (fun k => by unfold impl_UndoRepairs.f; rw [ImplCodeT_]; rfl) ?_
  unfold undoR
  by_cases c : codeT l s = 0
  · obtain ⟨h1, h2, h3⟩ := codeT_says c
    rw [if_pos c]
    have := implAppl_l l.length (s.reverse.map turn) (by simp; omega) (fun x hx => by
      obtain ⟨y, hy, rfl⟩ := List.mem_map.1 hx
      have := h3 y (List.mem_reverse.1 hy)
      exact ⟨this.1, this.2.1⟩) (s.reverse.map turn).length 0 l rfl (by omega) rfl
    rw [List.drop_zero] at this
    refine Ev.eq (fun k => ?_) this
    rw [if_pos c, if_pos (by omega)]
    have e : slices_Clone_int64_int64.f l = some l := by unfold slices_Clone_int64_int64.f; rw [if_pos (by omega)]
    unfold impl_applyRepairs.f
    rw [e]; rfl
  · rw [if_neg c]
    exact ⟨0, fun k _ => if_neg c⟩

def tot (l : List (List Int)) : Nat := (l.map List.length).sum
theorem tot_cons (x : List Int) (l : List (List Int)) : tot (x :: l) = x.length + tot l := by simp [tot]
theorem tot_mem : ∀ (l : List (List Int)) (x : List Int), x ∈ l → x.length ≤ tot l
  | y :: l, x, h => by
    rw [tot_cons]
    rcases List.mem_cons.1 h with rfl | h
    · omega
    · have := tot_mem l x h; omega
theorem gd_drop {α : Type} (z : α) (l : List α) (i : Int) (h0 : 0 ≤ i) (h : i < l.length) : l.drop i.toNat = l.getD i.toNat z :: l.drop (i + 1).toNat := by
  rw [List.drop_eq_getElem_cons (show i.toNat < l.length by omega), List.getD_eq_getElem?_getD, List.getElem?_eq_getElem (show i.toNat < l.length by omega), show (i + 1).toNat = i.toNat + 1 by omega]; rfl
theorem rdL_drop (l : List (List Int)) (i : Int) (h0 : 0 ≤ i) (h : i < l.length) : l.drop i.toNat = rd_L1 l i :: l.drop (i + 1).toNat := gd_drop [] l i h0 h
theorem rdL_mem (l : List (List Int)) (i : Int) (h0 : 0 ≤ i) (h : i < l.length) : rd_L1 l i ∈ l := by
  have := rdL_drop l i h0 h
  have hm : rd_L1 l i ∈ l.drop i.toNat := by rw [this]; exact List.mem_cons_self
  exact List.mem_of_mem_drop hm

def codeC (s : List Int) (c : List (List Int)) : Int := if okT s = true ∧ c.all okT = true then (if (c.all fun x => decide (x.length = s.length)) = true ∧ c.length ≤ 8 then 0 else 2) else 1
theorem ImplCodeC_ (s : List Int) (c : List (List Int)) : impl_copiesCode.f s c = some (codeC s c) := by
  have hv : vst = okT := by
    funext x
    have := ImplOkT_ x
    unfold vst; rw [this]; rfl
  unfold impl_copiesCode.f codeC impl_check.f
  rw [hv]
  have e : (c.all fun x => decide ((x.length : Int) = (s.length : Int))) = c.all fun x => decide (x.length = s.length) := by
    congr 1; funext x; exact decide_eq_decide.2 (by omega)
  rw [e]
  by_cases h1 : okT s = true <;> by_cases h2 : c.all okT = true <;> by_cases h3 : (c.all fun x => decide (x.length = s.length)) = true <;> by_cases h4 : c.length ≤ 8 <;> simp [h1, h2, h3, h4, show ((c.length : Int) ≤ 8) ↔ c.length ≤ 8 by omega]
theorem specC_1 (s : List Int) (c : List (List Int)) (hn : c.length ≤ 1048576) : ∀ (d : Nat) (i : Int), (c.length : Int) - i = d → 0 ≤ i → Ev (fun k => spec_l22Copies.l1 k s c i) (if ((c.drop i.toNat).all fun x => decide (x.length = s.length)) = true ∧ c.length ≤ 8 then 0 else 2) := by
  intro d
  induction d with
  | zero =>
    intro i hd h0
    refine Ev.now (fun k => ?_)
    simp only [spec_l22Copies.l1]
    rw [if_neg (by omega), List.drop_eq_nil_of_le (by omega)]
    by_cases h : c.length ≤ 8
    · rw [if_neg (by omega), if_pos ⟨by simp, h⟩]
    · rw [if_pos (by omega), if_neg (fun q => h q.2)]
  | succ d ih =>
    intro i hd h0
    rw [rdL_drop c i h0 (by omega), List.all_cons]
    have e : ∀ k, spec_l22Copies.l1 (k + 1) s c i = if (rd_L1 c i).length = s.length then spec_l22Copies.l1 k s c (i + 1) else some 2 := by
      intro k
      simp only [spec_l22Copies.l1]
      rw [if_pos (by omega), if_pos h0, w64 (by omega) (by omega)]
      by_cases q : (rd_L1 c i).length = s.length
      · rw [if_pos (by omega), if_pos q]
      · rw [if_neg (by omega), if_neg q]
    by_cases q : (rd_L1 c i).length = s.length
    · refine Ev.step (h := fun k => spec_l22Copies.l1 k s c (i + 1)) (fun k => by rw [e, if_pos q]) ?_
      rw [decide_eq_true q, Bool.true_and]
      exact ih (i + 1) (by omega) (by omega)
    · refine Ev.now (fun k => ?_)
      rw [e, if_neg q, decide_eq_false q, Bool.false_and, if_neg (by simp)]
theorem specC_0 (s : List Int) (c : List (List Int)) (hn : c.length ≤ 1048576) (ht : tot c ≤ 1048576) : ∀ (d : Nat) (i : Int), (c.length : Int) - i = d → 0 ≤ i → Ev (fun k => spec_l22Copies.l0 k s c i) (if ((c.drop i.toNat).all okT) = true then (if (c.all fun x => decide (x.length = s.length)) = true ∧ c.length ≤ 8 then 0 else 2) else 1) := by
  intro d
  induction d with
  | zero =>
    intro i hd h0
    rw [List.drop_eq_nil_of_le (by omega), if_pos (by simp)]
    refine Ev.step (h := fun k => spec_l22Copies.l1 k s c 0) (fun k => ?_) (specC_1 s c hn c.length 0 (by omega) (by omega))
    simp only [spec_l22Copies.l0]
    rw [if_neg (by omega)]
  | succ d ih =>
    intro i hd h0
    have hx := tot_mem c _ (rdL_mem c i h0 (by omega))
    rw [rdL_drop c i h0 (by omega), List.all_cons]
    have e : ∀ k, spec_l22Copies.l0 (k + 1) s c i = (spec_l22Ok.f k (rd_L1 c i)).bind fun t => if t = true then spec_l22Copies.l0 k s c (i + 1) else some 1 := by
      intro k
      simp only [spec_l22Copies.l0]
      rw [if_pos (by omega), if_pos h0, w64 (by omega) (by omega)]
    refine Ev.step e (Ev.bind (t := okT (rd_L1 c i)) ⟨1048577, fun k hk => SpecOkT_ _ (by omega) k (by omega)⟩ ?_)
    by_cases q : okT (rd_L1 c i) = true
    · rw [q, Bool.true_and]
      exact Ev.eq (fun k => by rw [if_pos rfl]) (ih (i + 1) (by omega) (by omega))
    · refine Ev.eq (h := fun _ => some 1) (fun k => by rw [if_neg q]) ⟨0, fun k _ => ?_⟩
      rw [if_neg (by simp [q])]
theorem SpecCodeC_ (s : List Int) (hs : s.length ≤ 1048576) (c : List (List Int)) (hn : c.length ≤ 1048576) (ht : tot c ≤ 1048576) : Ev (fun k => spec_l22Copies.f k s c) (codeC s c) := by
  refine Ev.eq (h := fun k => (spec_l22Ok.f k s).bind fun t => if t = true then spec_l22Copies.l0 k s c 0 else some 1) (fun k => rfl) (Ev.bind (t := okT s) ⟨1048577, fun k hk => SpecOkT_ s hs k (by omega)⟩ ?_)
  unfold codeC
  by_cases q : okT s = true
  · refine Ev.eq (fun k => by rw [if_pos q]) ?_
    have := specC_0 s c hn ht c.length 0 (by omega) (by omega)
    simp only [Int.toNat_zero, List.drop_zero] at this
    by_cases q2 : c.all okT = true
    · rw [if_pos q2] at this; rw [if_pos ⟨q, q2⟩]; exact this
    · rw [if_neg q2] at this; rw [if_neg (fun h => q2 h.2)]; exact this
  · refine Ev.eq (h := fun _ => some 1) (fun k => by rw [if_neg q]) ⟨0, fun k _ => ?_⟩
    rw [if_neg (fun h => q h.1)]
theorem codeC_0 {s : List Int} {c : List (List Int)} (h : codeC s c = 0) : okT s = true ∧ c.all okT = true ∧ (∀ x ∈ c, x.length = s.length) ∧ c.length ≤ 8 := by
  unfold codeC at h
  by_cases q : okT s = true ∧ c.all okT = true
  · rw [if_pos q] at h
    by_cases q2 : (c.all fun x => decide (x.length = s.length)) = true ∧ c.length ≤ 8
    · exact ⟨q.1, q.2, fun x hx => of_decide_eq_true (List.all_eq_true.1 q2.1 x hx), q2.2⟩
    · rw [if_neg q2] at h; omega
  · rw [if_neg q] at h; omega

def cpd (c : List (List Int)) (i : Int) : Bool := c.any fun x => decide (rd x i = 0)
/-- The repairs from part i on. -/
def repsF (s : List Int) (c : List (List Int)) : Nat → Int → List IR
  | 0, _ => []
  | d + 1, i => if rd s i = 1 then (⟨i, 1, if cpd c i = true then 2 else 3⟩ : IR) :: repsF s c d (i + 1) else repsF s c d (i + 1)
theorem repsF_len (s : List Int) (c : List (List Int)) : ∀ (d : Nat) (i : Int), (repsF s c d i).length ≤ d
  | 0, _ => Nat.le_refl _
  | d + 1, i => by
    have := repsF_len s c d (i + 1)
    unfold repsF; split <;> simp <;> omega
section
variable (s : List Int) (c : List (List Int)) (hs : s.length ≤ 40) (hc : c.length ≤ 8) (hl : ∀ x ∈ c, x.length = s.length)
include hs hc hl in
theorem specReps_1 (i : Int) (i0 : 0 ≤ i) (i1 : i < s.length) (a : List IR) (ha : a.length ≤ 100) (r : List IR × Int) : ∀ (d : Nat) (j x : Int), (c.length : Int) - j = d → 0 ≤ j → (x = 2 ∨ x = 3) → Ev (fun k => spec_RepairsFor.l0 k s c (a ++ [(⟨i, 1, if x = 2 ∨ cpd (c.drop j.toNat) i = true then 2 else 3⟩ : IR)]) (i + 1)) r → Ev (fun k => spec_RepairsFor.l1 k s c a i x j) r := by
  intro d
  induction d with
  | zero =>
    intro j x hd h0 hx hr
    refine Ev.step (fun k => ?_) hr
    simp only [spec_RepairsFor.l1]
    rw [if_neg (by omega), if_pos (by omega), w64 (by omega) (by omega), List.drop_eq_nil_of_le (by omega)]
    rcases hx with rfl | rfl <;> simp [cpd]
  | succ d ih =>
    intro j x hd h0 hx hr
    have hll := hl _ (rdL_mem c j h0 (by omega))
    rw [rdL_drop c j h0 (by omega)] at hr
    have e : ∀ k, spec_RepairsFor.l1 (k + 1) s c a i x j = spec_RepairsFor.l1 k s c a i (if rd (rd_L1 c j) i = 0 then 2 else x) (j + 1) := by
      intro k
      simp only [spec_RepairsFor.l1]
      rw [if_pos (by omega), if_pos h0, if_pos i0, if_pos (by omega), w64 (by omega) (by omega)]
      by_cases q : rd (rd_L1 c j) i = 0
      · rw [if_pos q, if_pos q]
      · rw [if_neg q, if_neg q]
    refine Ev.step e (ih (j + 1) _ (by omega) (by omega) (by split <;> simp [hx]) ?_)
    refine Ev.eq (fun k => ?_) hr
    by_cases q : rd (rd_L1 c j) i = 0
    · rw [if_pos q, if_pos (.inl rfl), if_pos (.inr (by simp [cpd, q]))]
    · rw [if_neg q]
      have : cpd (rd_L1 c j :: c.drop (j + 1).toNat) i = cpd (c.drop (j + 1).toNat) i := by simp only [cpd, List.any_cons, decide_eq_false q, Bool.false_or]
      rw [this]
include hs hc hl in
theorem specReps_0 : ∀ (d : Nat) (i : Int) (a : List IR), (s.length : Int) - i = d → 0 ≤ i → (a.length : Int) ≤ i → Ev (fun k => spec_RepairsFor.l0 k s c a i) (a ++ repsF s c d i, 0) := by
  intro d
  induction d with
  | zero =>
    intro i a hd h0 ha
    refine Ev.now (fun k => ?_)
    simp only [spec_RepairsFor.l0]
    rw [if_neg (by omega)]; simp [repsF]
  | succ d ih =>
    intro i a hd h0 ha
    by_cases q : rd s i = 1
    · refine Ev.step (h := fun k => spec_RepairsFor.l1 k s c a i 3 0) (fun k => ?_) (specReps_1 s c hs hc hl i h0 (by omega) a (by omega) _ c.length 0 3 (by omega) (by omega) (.inr rfl) ?_)
      · simp only [spec_RepairsFor.l0]
        rw [if_pos (by omega), if_pos h0, if_pos q]
      · have := ih (i + 1) (a ++ [(⟨i, 1, if cpd c i = true then 2 else 3⟩ : IR)]) (by omega) (by omega) (by simp; omega)
        simp only [repsF, if_pos q]
        simp only [Int.toNat_zero, List.drop_zero]
        rw [List.append_assoc] at this
        refine Ev.eq (fun k => ?_) this
        by_cases z : cpd c i = true
        · rw [if_pos (.inr z), if_pos z]
        · rw [if_neg (by simp [z]), if_neg z]
    · refine Ev.step (h := fun k => spec_RepairsFor.l0 k s c a (i + 1)) (fun k => ?_) ?_
      · simp only [spec_RepairsFor.l0]
        rw [if_pos (by omega), if_pos h0, if_neg q, w64 (by omega) (by omega)]
      · simp only [repsF, if_neg q]
        exact ih (i + 1) a (by omega) (by omega) (by omega)
include hs hl in
theorem implReps_0 : ∀ (d : Nat) (i : Int) (a : List IR), (s.length : Int) - i = d → 0 ≤ i → (a.length : Int) ≤ i → Ev (fun k => impl_RepairsFor.l0 k c a s (s.length : Int) i) (a ++ repsF s c d i, 0) := by
  intro d
  induction d with
  | zero =>
    intro i a hd h0 ha
    refine Ev.now (fun k => ?_)
    simp only [impl_RepairsFor.l0]
    rw [if_neg (by omega)]; simp [repsF]
  | succ d ih =>
    intro i a hd h0 ha
    by_cases q : rd s i = 1
    · have hcp : impl_isCopied.f c i = some (cpd c i) := by
        unfold impl_isCopied.f cpd
        rw [if_pos ⟨h0, List.all_eq_true.2 (fun x hx => decide_eq_true (by have := hl x hx; omega))⟩]
      have := ih (i + 1) (a ++ [(⟨i, 1, if cpd c i = true then 2 else 3⟩ : IR)]) (by omega) (by omega) (by simp; omega)
      refine Ev.step (h := fun k => impl_RepairsFor.l0 k c (a ++ [(⟨i, 1, if cpd c i = true then 2 else 3⟩ : IR)]) s (s.length : Int) (i + 1)) (fun k => ?_) ?_
      · simp only [impl_RepairsFor.l0]
        rw [if_pos (by omega), if_pos h0, if_pos (by omega), if_pos q, hcp]; simp only [Option.bind_some]
        by_cases z : cpd c i = true
        · rw [if_pos z, if_pos (by omega), w64 (by omega) (by omega), if_pos z]
        · rw [if_neg z, if_pos (by omega), w64 (by omega) (by omega), if_neg z]
      · simp only [repsF, if_pos q]
        rw [List.append_assoc] at this
        exact this
    · refine Ev.step (h := fun k => impl_RepairsFor.l0 k c a s (s.length : Int) (i + 1)) (fun k => ?_) ?_
      · simp only [impl_RepairsFor.l0]
        rw [if_pos (by omega), if_pos h0, if_pos (by omega), if_neg q, w64 (by omega) (by omega)]
      · simp only [repsF, if_neg q]
        exact ih (i + 1) a (by omega) (by omega) (by omega)
end
def repairsR (s : List Int) (c : List (List Int)) : List IR × Int := if codeC s c = 0 then (repsF s c s.length 0, 0) else ([], codeC s c)
theorem SpecRepairsFor_ (s : List Int) (hs : s.length ≤ 1048576) (c : List (List Int)) (hn : c.length ≤ 1048576) (ht : tot c ≤ 1048576) : Ev (fun k => spec_RepairsFor.f k s c) (repairsR s c) := by
  refine Ev.eq (h := fun k => (spec_l22Copies.f k s c).bind fun t => if t = 0 then spec_RepairsFor.l0 k s c [] 0 else some ([], t)) (fun k => rfl) (Ev.bind (SpecCodeC_ s hs c hn ht) ?_)
  unfold repairsR
  by_cases q : codeC s c = 0
  · obtain ⟨o1, o2, o3, o4⟩ := codeC_0 q
    rw [if_pos q]
    exact Ev.eq (fun k => by rw [if_pos q]) (specReps_0 s c (okT_says o1).1 o4 o3 s.length 0 [] (by omega) (by omega) (by simp))
  · rw [if_neg q]
    exact ⟨0, fun k _ => if_neg q⟩
theorem ImplRepairsFor_ (s : List Int) (c : List (List Int)) : Ev (fun k => impl_RepairsFor.f k s c) (repairsR s c) := by
  refine Ev.eq (h := fun k => if codeC s c = 0 then impl_RepairsFor.l0 k c [] s (s.length : Int) 0 else some ([], codeC s c)) (fun k => by unfold impl_RepairsFor.f; rw [ImplCodeC_]; rfl) ?_
  unfold repairsR
  by_cases q : codeC s c = 0
  · obtain ⟨o1, o2, o3, o4⟩ := codeC_0 q
    rw [if_pos q]
    exact Ev.eq (fun k => by rw [if_pos q]) (implReps_0 s c (okT_says o1).1 o3 s.length 0 [] (by omega) (by omega) (by simp))
  · rw [if_neg q]
    exact ⟨0, fun k _ => if_neg q⟩

/-- How often each of four numbers stands in a list. -/
def cnt4 (l : List Int) : List Int := from_ (fun v => ((l.count v : Nat) : Int)) 0 4
theorem rd_cnt4 (l : List Int) (v : Int) (h0 : 0 ≤ v) (h : v < 4) : rd (cnt4 l) v = (l.count v : Nat) := by
  unfold cnt4; rw [rd_from _ _ _ h0 (by omega)]
theorem cnt4_len (l : List Int) : (cnt4 l).length = 4 := by unfold cnt4; rw [from_len]
theorem cnt4_step (l : List Int) (x : Int) (h0 : 0 ≤ x) (h : x ≤ 3) : (cnt4 l).set x.toNat (rd (cnt4 l) x + 1) = cnt4 (l ++ [x]) := by
  apply rd_ext
  · rw [List.length_set, cnt4_len, cnt4_len]
  · intro j j0 j1
    rw [cnt4_len] at j1
    rw [rd_cnt4 (l ++ [x]) j j0 (by omega), List.count_append]
    by_cases e : j = x
    · subst e
      rw [rd_same _ _ _ h0 (by rw [cnt4_len]; omega), rd_cnt4 l j j0 (by omega)]; simp
    · rw [rd_other _ _ _ _ h0 j0 (by omega), rd_cnt4 l j j0 (by omega)]; simp [show ¬ x = j by omega]
theorem take_rd (l : List Int) (i : Int) (h0 : 0 ≤ i) (h : i < l.length) : l.take (i + 1).toNat = l.take i.toNat ++ [rd l i] := by
  rw [show (i + 1).toNat = i.toNat + 1 by omega, List.take_succ_eq_append_getElem (by omega)]
  unfold rd
  rw [List.getD_eq_getElem?_getD, List.getElem?_eq_getElem (by omega)]; rfl
theorem cnt4_nil : List.replicate 4 (0 : Int) = cnt4 [] := by decide

def stOf (b : Int) : Int := if b = 111 then 0 else if b = 100 then 1 else if b = 99 then 2 else if b = 110 then 3 else -1
def stAt (s : ByteArray) (i : Int) : Int := stOf (bt s i)
theorem index_st (b : Int) (h0 : 0 ≤ b) (h1 : b < 256) : Lib.indexByte [111, 100, 99, 110] b.toNat.toUInt8 = stOf b := by
  have e : ∀ n : Fin 256, Lib.indexByte [111, 100, 99, 110] n.1.toUInt8 = stOf (n.1 : Int) := by decide +kernel
  have := e ⟨b.toNat, by omega⟩
  simp only at this
  rw [this]; congr 1; omega
def readR (m : List Int) : List Int × Bool := if okT m = true then (m, true) else ([], false)
theorem okT_bad {m : List Int} (h : -1 ∈ m) : okT m = false := by
  cases e : okT m with
  | false => rfl
  | true => have := (okT_says e).2.1 _ h; omega

def lit4 : ByteArray := ⟨#[111, 100, 99, 110]⟩
def lets (l : List Int) : List Int := l.map (bt lit4)
theorem str_append (a b : List Int) : strOfNums (a ++ b) = strOfNums a ++ strOfNums b := by
  apply ByteArray.ext
  simp [strOfNums]
theorem lit_cut (x : Int) (h0 : 0 ≤ x) (h : x ≤ 3) : lit4.extract x.toNat (x + 1).toNat = strOfNums [bt lit4 x] := by
  have : x = 0 ∨ x = 1 ∨ x = 2 ∨ x = 3 := by omega
  rcases this with rfl | rfl | rfl | rfl <;> decide
theorem lit_one (x : Int) : (strOfNums [bt lit4 x]).size = 1 := by simp [strOfNums_size]

/-- What applying gives. -/
def applyR (l : List Int) (s : List IR) : List Int × Int := if codeT l s = 0 then appl s l else ([], codeT l s)
theorem ImplApply2_ (l : List Int) (hl : l.length ≤ 1048576) (s : List IR) : Ev (fun k => impl_ApplyRepairs.f k l s) (applyR l s) := by
  refine Ev.eq (h := fun k => if codeT l s = 0 then impl_applyRepairs.f k l s else some ([], codeT l s)) (fun k => by
    unfold impl_ApplyRepairs.f; rw [ImplCodeT_]; simp only [Option.bind_some]
    by_cases c : codeT l s = 0
    · rw [if_pos c, if_pos c]; cases impl_applyRepairs.f k l s <;> rfl
    · rw [if_neg c, if_neg c]) ?_
  unfold applyR
  by_cases c : codeT l s = 0
  · obtain ⟨h1, h2, h3⟩ := codeT_says c
    rw [if_pos c]
    have := implAppl_l l.length s (by omega) (fun x hx => ⟨(h3 x hx).1, (h3 x hx).2.1⟩) s.length 0 l rfl (by omega) rfl
    rw [List.drop_zero] at this
    refine Ev.eq (fun k => ?_) this
    rw [if_pos c]
    have e : slices_Clone_int64_int64.f l = some l := by unfold slices_Clone_int64_int64.f; rw [if_pos (by omega)]
    unfold impl_applyRepairs.f
    rw [e]; rfl
  · rw [if_neg c]
    exact ⟨0, fun k _ => if_neg c⟩
theorem appl_app : ∀ (s t : List IR) (l m : List Int), appl s l = (m, 0) → appl (s ++ t) l = appl t m
  | [], t, l, m, h => by obtain ⟨rfl, _⟩ := Prod.mk.inj h; rfl
  | x :: s, t, l, m, h => by
    unfold appl at h
    by_cases c : rd l x.f0 = x.f1
    · rw [if_pos c] at h
      show (if rd l x.f0 = x.f1 then appl (s ++ t) (l.set x.f0.toNat x.f2) else ([], 9)) = _
      rw [if_pos c]; exact appl_app s t _ m h
    · rw [if_neg c] at h; have := (Prod.mk.inj h).2; omega
theorem set_back (l : List Int) (i : Int) (v : Int) (h0 : 0 ≤ i) (h : i < l.length) : (l.set i.toNat v).set i.toNat (rd l i) = l := by
  apply rd_ext _ _ (by simp)
  intro j j0 j1
  by_cases e : j = i
  · subst e; rw [rd_same _ _ _ h0 (by simpa using h)]
  · rw [rd_other _ _ _ _ h0 j0 (by omega), rd_other _ _ _ _ h0 j0 (by omega)]
theorem appl_ok : ∀ (s : List IR) (l x : List Int), appl s l = (x, 0) → x.length = l.length
  | [], l, x, h => by obtain ⟨rfl, _⟩ := Prod.mk.inj h; rfl
  | y :: s, l, x, h => by
    unfold appl at h
    by_cases c : rd l y.f0 = y.f1
    · rw [if_pos c] at h; have := appl_ok s _ x h; simpa using this
    · rw [if_neg c] at h; have := (Prod.mk.inj h).2; omega
theorem appl_in : ∀ (s : List IR) (l x : List Int), (∀ y ∈ s, 0 ≤ y.f2 ∧ y.f2 ≤ 3) → (∀ v ∈ l, 0 ≤ v ∧ v ≤ 3) → appl s l = (x, 0) → ∀ v ∈ x, 0 ≤ v ∧ v ≤ 3
  | [], l, x, _, hl, h => by obtain ⟨rfl, _⟩ := Prod.mk.inj h; exact hl
  | y :: s, l, x, hs, hl, h => by
    unfold appl at h
    by_cases c : rd l y.f0 = y.f1
    · rw [if_pos c] at h
      refine appl_in s _ x (fun z hz => hs z (List.mem_cons_of_mem _ hz)) (fun v hv => ?_) h
      rcases List.mem_or_eq_of_mem_set hv with hv | rfl
      · exact hl v hv
      · exact hs y List.mem_cons_self
    · rw [if_neg c] at h; have := (Prod.mk.inj h).2; omega
theorem appl_back : ∀ (s : List IR) (l x : List Int), (∀ y ∈ s, 0 ≤ y.f0 ∧ y.f0 < l.length) → appl s l = (x, 0) → appl (s.reverse.map turn) x = (l, 0)
  | [], l, x, _, h => by obtain ⟨rfl, _⟩ := Prod.mk.inj h; rfl
  | y :: s, l, x, hs, h => by
    unfold appl at h
    by_cases c : rd l y.f0 = y.f1
    · rw [if_pos c] at h
      obtain ⟨b0, b1⟩ := hs y List.mem_cons_self
      have ih := appl_back s (l.set y.f0.toNat y.f2) x (fun z hz => by have := hs z (List.mem_cons_of_mem _ hz); simpa using this) h
      rw [List.reverse_cons, List.map_append, appl_app _ _ _ _ ih]
      show (if rd (l.set y.f0.toNat y.f2) y.f0 = y.f2 then ((l.set y.f0.toNat y.f2).set y.f0.toNat y.f1, (0 : Int)) else ([], 9)) = _
      rw [if_pos (rd_same _ _ _ b0 b1), ← c, set_back l _ _ b0 b1]
    · rw [if_neg c] at h; have := (Prod.mk.inj h).2; omega
theorem okT_mk {l : List Int} (h1 : l.length ≤ 40) (h2 : ∀ x ∈ l, 0 ≤ x ∧ x ≤ 3) : okT l = true := by
  unfold okT
  rw [decide_eq_true (by omega), Bool.true_and]
  exact List.all_eq_true.2 (fun x hx => decide_eq_true (h2 x hx))
/-- Steps that were applied are undone. -/
theorem undo_back (l : List Int) (s : List IR) (x : List Int) (h : applyR l s = (x, 0)) : undoR x s = (l, 0) := by
  unfold applyR at h
  by_cases c : codeT l s = 0
  · rw [if_pos c] at h
    obtain ⟨h1, h2, h3⟩ := codeT_says c
    have hl := appl_ok s l x h
    have ho : okT x = true := okT_mk (by rw [hl]; exact (okT_says h1).1) (appl_in s l x (fun y hy => by have := h3 y hy; omega) (okT_says h1).2.1 h)
    have hc : codeT x s = 0 := by
      unfold codeT at c ⊢
      rw [if_pos h1] at c
      rw [if_pos ho, hl]; exact c
    unfold undoR
    rw [if_pos hc]
    exact appl_back s l x (fun y hy => by have := h3 y hy; omega) h
  · rw [if_neg c] at h; exact absurd (Prod.mk.inj h).2 c
/-- The repairs of damaged parts, applied: nothing damaged is left. -/
theorem reps_appl (s : List Int) (c : List (List Int)) (hs : ∀ x ∈ s, 0 ≤ x ∧ x ≤ 3) : ∀ (d : Nat) (i : Int) (a : List Int), (s.length : Int) - i = d → 0 ≤ i → a.length = s.length → (∀ j : Int, i ≤ j → j < s.length → rd a j = rd s j) → (∀ j : Int, 0 ≤ j → j < i → rd a j ≠ 1) → ∃ x, appl (repsF s c d i) a = (x, 0) ∧ x.length = s.length ∧ ∀ j : Int, 0 ≤ j → j < s.length → rd x j ≠ 1 := by
  intro d
  induction d with
  | zero => exact fun i a hd h0 ha hr hq => ⟨a, rfl, ha, fun j j0 j1 => hq j j0 (by omega)⟩
  | succ d ih =>
    intro i a hd h0 ha hr hq
    unfold repsF
    by_cases q : rd s i = 1
    · rw [if_pos q]
      obtain ⟨x, hx, hxl, hx1⟩ := ih (i + 1) (a.set i.toNat (if cpd c i = true then 2 else 3)) (by omega) (by omega) (by simpa using ha) (fun j j0 j1 => by rw [rd_other _ _ _ _ h0 (by omega) (by omega)]; exact hr j (by omega) j1) (fun j j0 j1 => by
        by_cases e : j = i
        · subst e; rw [rd_same _ _ _ h0 (by omega)]; split <;> omega
        · rw [rd_other _ _ _ _ h0 j0 (by omega)]; exact hq j j0 (by omega))
      refine ⟨x, ?_, hxl, hx1⟩
      show (if rd a i = 1 then appl (repsF s c d (i + 1)) (a.set i.toNat (if cpd c i = true then 2 else 3)) else ([], 9)) = _
      rw [if_pos (by rw [hr i (by omega) (by omega)]; exact q)]; exact hx
    · rw [if_neg q]
      exact ih (i + 1) a (by omega) (by omega) ha (fun j j0 j1 => hr j (by omega) j1) (fun j j0 j1 => by
        by_cases e : j = i
        · subst e; rw [hr j (by omega) (by omega)]; exact q
        · exact hq j j0 (by omega))
theorem reps_ok (s : List Int) (c : List (List Int)) : ∀ (d : Nat) (i : Int), (s.length : Int) - i = d → 0 ≤ i → ∀ x ∈ repsF s c d i, 0 ≤ x.f0 ∧ x.f0 < s.length ∧ x.f1 = 1 ∧ (x.f2 = 2 ∨ x.f2 = 3)
  | 0, i, hd, h0, x, hx => by cases hx
  | d + 1, i, hd, h0, x, hx => by
    unfold repsF at hx
    split at hx
    · rcases List.mem_cons.1 hx with rfl | hx
      · exact ⟨h0, by show i < (s.length : Int); omega, rfl, by show (if cpd c i = true then (2 : Int) else 3) = 2 ∨ _ = 3; split <;> simp⟩
      · exact reps_ok s c d (i + 1) (by omega) (by omega) x hx
    · exact reps_ok s c d (i + 1) (by omega) (by omega) x hx
theorem count_ne (l : List Int) (h : ∀ j : Int, 0 ≤ j → j < l.length → rd l j ≠ 1) : l.count 1 = 0 := by
  rw [List.count_eq_zero]
  intro hm
  obtain ⟨n, hn, he⟩ := List.getElem_of_mem hm
  refine h (n : Int) (by omega) (by omega) ?_
  unfold rd
  rw [List.getD_eq_getElem?_getD, Int.toNat_natCast, List.getElem?_eq_getElem hn]; exact he
theorem repairs_heal (s : List Int) (c : List (List Int)) (h : (repairsR s c).2 = 0) : ∃ x, applyR s (repairsR s c).1 = (x, 0) ∧ okT x = true ∧ x.count 1 = 0 ∧ x.length ≤ 40 := by
  unfold repairsR at h ⊢
  by_cases q : codeC s c = 0
  · rw [if_pos q]
    obtain ⟨o1, o2, o3, o4⟩ := codeC_0 q
    obtain ⟨g1, g2, g3⟩ := okT_says o1
    obtain ⟨x, hx, hxl, hx1⟩ := reps_appl s c g2 s.length 0 s (by omega) (by omega) rfl (fun j _ _ => rfl) (fun j j0 j1 => by omega)
    have hr := reps_ok s c s.length 0 (by omega) (by omega)
    have hlen := repsF_len s c s.length 0
    have hcode : codeT s (repsF s c s.length 0) = 0 := by
      have hall : (repsF s c s.length 0).all (stepOk s.length) = true := by
        refine List.all_eq_true.2 (fun y hy => ?_)
        obtain ⟨a1, a2, a3, a4⟩ := hr y hy
        unfold stepOk
        rw [w64 (by omega) (by omega)]
        simp only [Bool.and_eq_true, decide_eq_true_eq]
        omega
      unfold codeT
      rw [if_pos o1, if_pos ⟨hall, by omega⟩]
    refine ⟨x, ?_, okT_mk (by omega) (appl_in _ _ _ (fun y hy => by have := hr y hy; omega) g2 hx), count_ne x (by rw [hxl]; exact hx1), by omega⟩
    unfold applyR
    show (if codeT s (repsF s c s.length 0) = 0 then appl (repsF s c s.length 0) s else _) = _
    rw [if_pos hcode]; exact hx
  · rw [if_neg q] at h; exact absurd h q
theorem bt_str (xs : List Int) (j : Int) (j0 : 0 ≤ j) (j1 : j < xs.length) (h0 : 0 ≤ rd xs j) (h1 : rd xs j < 256) : bt (strOfNums xs) j = rd xs j := by
  have hs : j.toNat < (strOfNums xs).size := by rw [strOfNums_size]; omega
  have hr : rd xs j = xs[j.toNat]'(by omega) := by
    unfold rd; rw [List.getD_eq_getElem?_getD, List.getElem?_eq_getElem (by omega)]; rfl
  rw [← bt_at _ _ hs]
  have e : (strOfNums xs)[j.toNat]'hs = UInt8.ofNat (rd xs j).toNat := by
    rw [hr]
    show (strOfNums xs).data[j.toNat]'hs = _
    simp [strOfNums]
  rw [e, UInt8.toNat_ofNat']
  omega
theorem st_lit (v : Int) (h0 : 0 ≤ v) (h : v ≤ 3) : stOf (bt lit4 v) = v ∧ 0 ≤ bt lit4 v ∧ bt lit4 v < 256 := by
  have : v = 0 ∨ v = 1 ∨ v = 2 ∨ v = 3 := by omega
  rcases this with rfl | rfl | rfl | rfl <;> decide
/-- A text of states is read back. -/
theorem read_back (d : List Int) (h : okT d = true) : readR (from_ (stAt (strOfNums (lets d))) 0 (strOfNums (lets d)).size) = (d, true) := by
  obtain ⟨g1, g2, g3⟩ := okT_says h
  have hz : (strOfNums (lets d)).size = d.length := by rw [strOfNums_size]; unfold lets; rw [List.length_map]
  have e : from_ (stAt (strOfNums (lets d))) 0 (strOfNums (lets d)).size = d := by
    rw [hz]
    apply rd_ext
    · rw [from_len]
    · intro j j0 j1
      rw [rd_from _ _ _ j0 (by omega)]
      have hb := g3 j j0 j1
      obtain ⟨b1, b2, b3⟩ := st_lit _ hb.1 hb.2
      have hr : rd (lets d) j = bt lit4 (rd d j) := by
        unfold rd lets
        rw [List.getD_eq_getElem?_getD, List.getD_eq_getElem?_getD, List.getElem?_map, List.getElem?_eq_getElem (by omega)]; rfl
      unfold stAt
      rw [bt_str _ _ j0 (by unfold lets; rw [List.length_map]; exact j1) (by rw [hr]; exact b2) (by rw [hr]; exact b3), hr, b1]
  unfold readR
  rw [e, if_pos h]

theorem rd_mem (l : List Int) (i : Int) (h0 : 0 ≤ i) (h : i < l.length) : rd l i ∈ l := by
  unfold rd
  rw [List.getD_eq_getElem?_getD, List.getElem?_eq_getElem (by omega)]
  exact List.getElem_mem _
theorem u64_range (n : Int) : 0 ≤ IntKind.u64.wrap n ∧ IntKind.u64.wrap n < 18446744073709551616 := by
  have e : IntKind.u64.wrap n = n % 18446744073709551616 := by simp [IntKind.wrap, IntKind.bits, IntKind.signed]
  rw [e]; omega
theorem low_byte (n : Int) : 0 ≤ Go.bits .and .u64 (IntKind.u64.wrap n / 1099511627776) 255 ∧ Go.bits .and .u64 (IntKind.u64.wrap n / 1099511627776) 255 ≤ 255 := by
  have h := u64_range n
  have e : Go.bits .and .u64 (IntKind.u64.wrap n / 1099511627776) 255 = (IntKind.u64.wrap n / 1099511627776) % 256 :=
    Go.bits_mask .u64 64 (by decide) (fun m g0 g1 => by
      have e : IntKind.u64.wrap m = m % 18446744073709551616 := by simp [IntKind.wrap, IntKind.bits, IntKind.signed]
      have : (2 : Int) ^ 64 = 18446744073709551616 := by decide
      rw [e]; omega) 8 (by decide) _ (by omega) (by have : (2 : Int) ^ 64 = 18446744073709551616 := by decide
                                                    omega)
  rw [e]; omega
theorem low_byte_w (n : Int) : 0 ≤ wrap64 (Go.bits .and .u64 (IntKind.u64.wrap n / 1099511627776) 255) ∧ wrap64 (Go.bits .and .u64 (IntKind.u64.wrap n / 1099511627776) 255) ≤ 255 := by
  have h := low_byte n
  rw [w64 (by omega) (by omega)]; exact h
theorem Next_ (l : List Int) (hl : ∀ x ∈ l, 0 ≤ x ∧ x ≤ 255) (a s : Int) (h0 : 0 ≤ a) (h1 : a ≤ 1152921504606846976) : ∃ v s', spec_l00Src_next.f l a s = some (v, a + 1, s') ∧ 0 ≤ v ∧ v ≤ 255 := by
  unfold spec_l00Src_next.f
  have hw : wrap64 (a + 1) = a + 1 := w64 (by omega) (by omega)
  by_cases c : a < (l.length : Int)
  · have hb := hl _ (rd_mem l a h0 c)
    rw [if_pos c, if_pos h0, hw, if_pos (by omega)]
    exact ⟨_, _, rfl, by rw [w64 (by omega) (by omega)]; omega, by rw [w64 (by omega) (by omega)]; omega⟩
  · rw [if_neg c, hw, if_neg (by omega)]
    exact ⟨_, _, rfl, (low_byte_w _).1, (low_byte_w _).2⟩

theorem Pick_ (l : List Int) (hl : ∀ x ∈ l, 0 ≤ x ∧ x ≤ 255) (a s n : Int) (h0 : 0 ≤ a) (h1 : a ≤ 1000000000000) : ∃ v a' s', spec_l00Src_pick.f l a s n = some (v, a', s') ∧ a ≤ a' ∧ a' ≤ a + 2 ∧ 0 ≤ v ∧ v ≤ 65535 ∧ (1 ≤ n → v < n) ∧ (n ≤ 1 → v = 0) := by
  unfold spec_l00Src_pick.f
  by_cases c : n ≤ 1
  · rw [if_pos c]; exact ⟨0, a, s, rfl, by omega, by omega, by omega, by omega, by omega, by omega⟩
  · obtain ⟨v, s', hv, v0, v1⟩ := Next_ l hl a s h0 (by omega)
    rw [if_neg c, hv]; simp only [Option.bind_some]
    by_cases d : n > 200
    · obtain ⟨u, s2, hu, u0, u1⟩ := Next_ l hl (a + 1) s' (by omega) (by omega)
      rw [if_pos d, hu]; simp only [Option.bind_some]
      rw [if_neg (by omega), w64 (n := v * 256) (by omega) (by omega), w64 (n := v * 256 + u) (by omega) (by omega), tmod_eq _ _ (by omega), if_pos (by omega)]
      have g0 := Int.emod_nonneg (v * 256 + u) (b := n) (by omega)
      have g1 := Int.emod_lt_of_pos (v * 256 + u) (b := n) (by omega)
      have g2 := Int.mul_ediv_add_emod (v * 256 + u) n
      have g3 := Int.mul_nonneg (show 0 ≤ n by omega) (Int.ediv_nonneg (show 0 ≤ v * 256 + u by omega) (show 0 ≤ n by omega))
      exact ⟨_, _, _, rfl, by omega, by omega, g0, by omega, fun _ => g1, fun _ => by omega⟩
    · rw [if_neg d, if_neg (by omega), tmod_eq _ _ (by omega), if_pos (by omega)]
      have g0 := Int.emod_nonneg v (b := n) (by omega)
      have g1 := Int.emod_lt_of_pos v (b := n) (by omega)
      exact ⟨_, _, _, rfl, by omega, by omega, g0, by omega, fun _ => g1, fun _ => by omega⟩

theorem One_ (l : List Int) (hl : ∀ x ∈ l, 0 ≤ x ∧ x ≤ 255) (a s n : Int) (h0 : 0 ≤ a) (h1 : a ≤ 1000000000000) : ∃ b a' s', spec_l00Src_one.f l a s n = some (b, a', s') ∧ a ≤ a' ∧ a' ≤ a + 2 := by
  unfold spec_l00Src_one.f
  obtain ⟨v, a', s', h, g1, g2, _⟩ := Pick_ l hl a s n h0 h1
  rw [h]; exact ⟨_, _, _, rfl, g1, g2⟩

theorem Among_ (l : List Int) (hl : ∀ x ∈ l, 0 ≤ x ∧ x ≤ 255) (a s : Int) (xs : List Int) (hx : 0 < xs.length) (h0 : 0 ≤ a) (h1 : a ≤ 1000000000000) : ∃ v a' s', spec_l00Src_among.f l a s xs = some (v, a', s') ∧ a ≤ a' ∧ a' ≤ a + 2 ∧ v ∈ xs := by
  unfold spec_l00Src_among.f
  obtain ⟨v, a', s', h, g1, g2, g3, g4, g5, g6⟩ := Pick_ l hl a s xs.length h0 h1
  have := g5 (by omega)
  rw [h]; simp only [Option.bind_some]
  rw [if_pos g3, if_pos this]
  exact ⟨_, _, _, rfl, g1, g2, rd_mem _ _ g3 this⟩

theorem Max_ (a b : Int) : spec_l00Max.f a b = some (mx a b) := by
  unfold spec_l00Max.f mx
  by_cases h : a > b
  · rw [if_pos h, if_neg (by omega)]
  · rw [if_neg h]; by_cases h2 : a < b
    · rw [if_pos h2]
    · rw [if_neg h2, show a = b by omega]

/-- From some number of rounds on there is an answer, one that is as told. -/
def EvP {α : Type} (g : Nat → Option α) (Q : α → Prop) : Prop := ∃ r, Q r ∧ Ev g r
theorem EvP.step {α : Type} {g h : Nat → Option α} {Q : α → Prop} (e : ∀ k, g (k + 1) = h k) (hr : EvP h Q) : EvP g Q := by
  obtain ⟨r, hq, hr⟩ := hr
  exact ⟨r, hq, Ev.step e hr⟩
theorem EvP.eq {α : Type} {g h : Nat → Option α} {Q : α → Prop} (e : ∀ k, g k = h k) (hr : EvP h Q) : EvP g Q := by
  obtain ⟨r, hq, hr⟩ := hr
  exact ⟨r, hq, Ev.eq e hr⟩
theorem EvP.bind {α β : Type} {c : Nat → Option α} {f : Nat → α → Option β} {P : α → Prop} {Q : β → Prop} (hc : EvP c P) (hf : ∀ t, P t → EvP (fun k => f k t) Q) : EvP (fun k => (c k).bind (f k)) Q := by
  obtain ⟨t, hp, hc⟩ := hc
  obtain ⟨r, hq, hr⟩ := hf t hp
  exact ⟨r, hq, Ev.bind hc hr⟩

theorem New_l (l : List Int) (hl : ∀ x ∈ l, 0 ≤ x ∧ x ≤ 255) : ∀ (d : Nat) (n a s : Int) (R : List Int), n.toNat = d → n ≤ 1000 → R.length + d ≤ 1000 → 0 ≤ a → a + 2 * d ≤ 100000000000 → EvP (fun k => spec_l22New.l0 k R n l a s) (fun r => r.1.length = R.length + d ∧ a ≤ r.2.1 ∧ r.2.1 ≤ a + 2 * d) := by
  intro d
  induction d with
  | zero =>
    intro n a s R hd hn hR h0 h1
    refine ⟨(R, a, s), ⟨rfl, Int.le_refl _, by show a ≤ a + 2 * ((0 : Nat) : Int); omega⟩, Ev.now (fun k => ?_)⟩
    simp only [spec_l22New.l0]
    rw [if_neg (by omega)]
  | succ d ih =>
    intro n a s R hd hn hR h0 h1
    obtain ⟨v, a', s', hv, g1, g2, g3, g4, g5, g6⟩ := Pick_ l hl a s 6 h0 (by omega)
    refine EvP.step (h := fun k => spec_l22New.l0 k (R ++ [mx 0 (v - 2)]) (n - 1) l a' s') (fun k => ?_) ?_
    · simp only [spec_l22New.l0]
      rw [if_pos (by omega), hv]; simp only [Option.bind_some]
      rw [w64 (n := v - 2) (by omega) (by omega), Max_]; simp only [Option.bind_some]
      rw [if_pos (by omega), w64 (n := n - 1) (by omega) (by omega)]
    · obtain ⟨r, ⟨r1, r2, r3⟩, r4⟩ := ih (n - 1) a' s' (R ++ [mx 0 (v - 2)]) (by omega) (by omega) (by simp; omega) (by omega) (by omega)
      exact ⟨r, ⟨by rw [r1]; simp; omega, by omega, by omega⟩, r4⟩
theorem New_ (l : List Int) (hl : ∀ x ∈ l, 0 ≤ x ∧ x ≤ 255) (n a s : Int) (hn : n ≤ 1000) (h0 : 0 ≤ a) (h1 : a ≤ 10000000000) : EvP (fun k => spec_l22New.f k l a s n) (fun r => r.1.length = n.toNat ∧ a ≤ r.2.1 ∧ r.2.1 ≤ a + 2000) := by
  obtain ⟨r, ⟨r1, r2, r3⟩, r4⟩ := New_l l hl n.toNat n a s [] rfl hn (by simp; omega) h0 (by omega)
  exact ⟨r, ⟨by rw [r1]; simp, r2, by omega⟩, r4⟩
theorem Draw22_j1 (l : List Int) (hl : ∀ x ∈ l, 0 ≤ x ∧ x ≤ 255) (n a s : Int) (R : List Int) (b : Bool) (hb : b = true → 0 < n) (hR : R.length = n.toNat) (hn : n ≤ 41) (h0 : 0 ≤ a) (h1 : a ≤ 10000000000) : EvP (fun k => spec_l22Draw.j1 k n R b l a s) (fun r => r.1.length ≤ 41 ∧ a ≤ r.2.1 ∧ r.2.1 ≤ a + 4) := by
  cases b with
  | false => exact ⟨(R, a, s), ⟨by show R.length ≤ 41; omega, Int.le_refl _, by show a ≤ a + 4; omega⟩, Ev.now (fun k => rfl)⟩
  | true =>
    have := hb rfl
    obtain ⟨v, a', s', hv, g1, g2, g3, g4, g5, g6⟩ := Pick_ l hl a s n h0 (by omega)
    obtain ⟨u, a2, s2, hu, q1, q2, _⟩ := Among_ l hl a' s' [-1, 0, 3, 4, -9223372036854775808] (by simp) (by omega) (by omega)
    have := g5 (by omega)
    refine ⟨(R.set v.toNat u, a2, s2), ⟨by simp; omega, by show a ≤ a2; omega, by show a2 ≤ a + 4; omega⟩, Ev.now (fun k => ?_)⟩
    simp only [spec_l22Draw.j1, if_true]
    rw [hv]; simp only [Option.bind_some]
    rw [hu]; simp only [Option.bind_some]
    rw [if_pos g3, if_pos (by omega)]
theorem Draw22_j0 (l : List Int) (hl : ∀ x ∈ l, 0 ≤ x ∧ x ≤ 255) (n a s : Int) (hn : n ≤ 41) (h0 : 0 ≤ a) (h1 : a ≤ 1000000000) : EvP (fun k => spec_l22Draw.j0 k n l a s) (fun r => r.1.length ≤ 41 ∧ a ≤ r.2.1 ∧ r.2.1 ≤ a + 3000) := by
  obtain ⟨r, ⟨r1, r2, r3⟩, r4⟩ := New_ l hl n a s (by omega) h0 (by omega)
  by_cases c : n > 0
  · obtain ⟨b, a', s', hb, g1, g2⟩ := One_ l hl r.2.1 r.2.2 12 (by omega) (by omega)
    obtain ⟨R, ⟨q1, q2, q3⟩, q4⟩ := Draw22_j1 l hl n a' s' r.1 b (fun _ => c) r1 hn (by omega) (by omega)
    refine ⟨R, ⟨q1, by omega, by omega⟩, Ev.step (h := fun k => (spec_l22New.f k l a s n).bind fun bt228 => (if n > 0 then ((spec_l00Src_one.f l bt228.2.1 bt228.2.2 12).bind fun bt233 => (spec_l22Draw.j1 k n bt228.1 bt233.1 l bt233.2.1 bt233.2.2)) else (spec_l22Draw.j1 k n bt228.1 false l bt228.2.1 bt228.2.2))) (fun k => rfl) (Ev.bind r4 (Ev.eq (fun k => ?_) q4))⟩
    rw [if_pos c, hb]; rfl
  · obtain ⟨R, ⟨q1, q2, q3⟩, q4⟩ := Draw22_j1 l hl n r.2.1 r.2.2 r.1 false (fun h => by cases h) r1 hn (by omega) (by omega)
    refine ⟨R, ⟨q1, by omega, by omega⟩, Ev.step (h := fun k => (spec_l22New.f k l a s n).bind fun bt228 => (if n > 0 then ((spec_l00Src_one.f l bt228.2.1 bt228.2.2 12).bind fun bt233 => (spec_l22Draw.j1 k n bt228.1 bt233.1 l bt233.2.1 bt233.2.2)) else (spec_l22Draw.j1 k n bt228.1 false l bt228.2.1 bt228.2.2))) (fun k => rfl) (Ev.bind r4 (Ev.eq (fun k => ?_) q4))⟩
    rw [if_neg c]
theorem Draw22_ (l : List Int) (hl : ∀ x ∈ l, 0 ≤ x ∧ x ≤ 255) (a s : Int) (h0 : 0 ≤ a) (h1 : a ≤ 100000000) : EvP (fun k => spec_l22Draw.f k l a s) (fun r => r.1.length ≤ 41 ∧ a ≤ r.2.1 ∧ r.2.1 ≤ a + 4000) := by
  obtain ⟨v, a', s', hv, g1, g2, g3, g4, g5, g6⟩ := Pick_ l hl a s 9 h0 (by omega)
  obtain ⟨b, a2, s2, hb, q1, q2⟩ := One_ l hl a' s' 20 (by omega) (by omega)
  have := g5 (by omega)
  cases b with
  | false =>
    obtain ⟨R, ⟨r1, r2, r3⟩, r4⟩ := Draw22_j0 l hl v a2 s2 (by omega) (by omega) (by omega)
    refine ⟨R, ⟨r1, by omega, by omega⟩, Ev.eq (fun k => ?_) r4⟩
    unfold spec_l22Draw.f
    rw [hv]; simp only [Option.bind_some]
    rw [hb]; rfl
  | true =>
    obtain ⟨u, a3, s3, hu, p1, p2, p3, p4, p5, p6⟩ := Pick_ l hl a2 s2 2 (by omega) (by omega)
    have := p5 (by omega)
    obtain ⟨R, ⟨r1, r2, r3⟩, r4⟩ := Draw22_j0 l hl (40 + u) a3 s3 (by omega) (by omega) (by omega)
    refine ⟨R, ⟨r1, by omega, by omega⟩, Ev.eq (fun k => ?_) r4⟩
    unfold spec_l22Draw.f
    rw [hv]; simp only [Option.bind_some]
    rw [hb]; simp only [Option.bind_some, if_true]
    rw [hu]; simp only [Option.bind_some]
    rw [w64 (n := 40 + u) (by omega) (by omega)]
theorem DrawCopies_l (l : List Int) (hl : ∀ x ∈ l, 0 ≤ x ∧ x ≤ 255) (st : List Int) (hst : st.length ≤ 41) (n : Int) (hn : n ≤ 9) : ∀ (d : Nat) (m a s : Int) (c : List (List Int)), m.toNat = d → m ≤ n → c.length + d = n.toNat → (∀ x ∈ c, x.length = st.length) → 0 ≤ a → a + 2000 * d ≤ 10000000 → EvP (fun k => spec_l22DrawCopies.l0 k st c n m l a s) (fun r => r.1 = st ∧ r.2.length ≤ 9 ∧ ∀ x ∈ r.2, x.length ≤ 42) := by
  intro d
  induction d with
  | zero =>
    intro m a s c hd hm hc hx h0 h1
    have hcl : c.length ≤ 9 := by omega
    have hxs : ∀ x ∈ c, x.length ≤ 42 := fun x h => by have := hx x h; omega
    by_cases z : n > 0
    · obtain ⟨v, a', s', hv, g1, g2, g3, g4, g5, g6⟩ := Pick_ l hl a s 16 h0 (by omega)
      have hr0 := rdL_mem c 0 (by omega) (by omega)
      have hl0 := hx _ hr0
      have hset : ∀ y : List Int, y.length ≤ 42 → ∀ x ∈ c.set (0 : Int).toNat y, x.length ≤ 42 := fun y hy x h => by
        rcases List.mem_or_eq_of_mem_set h with h | h
        · exact hxs x h
        · rw [h]; exact hy
      by_cases z0 : v = 0
      · refine ⟨(st, c.set (0 : Int).toNat (rd_L1 c 0 ++ [0])), ⟨rfl, by simp; omega, hset _ (by simp; omega)⟩, Ev.now (fun k => ?_)⟩
        simp only [spec_l22DrawCopies.l0]
        rw [if_neg (by omega), if_pos z, hv]; simp only [Option.bind_some]
        rw [if_pos z0, if_pos (by omega), if_pos (by omega)]
      · by_cases z1 : v = 1
        · obtain ⟨R, ⟨r1, r2, r3⟩, r4⟩ := Draw22_ l hl a' s' (by omega) (by omega)
          refine ⟨(st, c.set (0 : Int).toNat R.1), ⟨rfl, by simp; omega, hset _ (by omega)⟩, Ev.step (h := fun k => (spec_l22Draw.f k l a' s').bind fun t => some (st, c.set (0 : Int).toNat t.1)) (fun k => ?_) (Ev.bind r4 ⟨0, fun k _ => rfl⟩)⟩
          simp only [spec_l22DrawCopies.l0]
          rw [if_neg (by omega), if_pos z, hv]; simp only [Option.bind_some]
          rw [if_neg z0, if_pos z1]
          congr 1; funext t
          rw [if_pos (by omega)]
        · refine ⟨(st, c), ⟨rfl, hcl, hxs⟩, Ev.now (fun k => ?_)⟩
          simp only [spec_l22DrawCopies.l0]
          rw [if_neg (by omega), if_pos z, hv]; simp only [Option.bind_some]
          rw [if_neg z0, if_neg z1]
    · refine ⟨(st, c), ⟨rfl, hcl, hxs⟩, Ev.now (fun k => ?_)⟩
      simp only [spec_l22DrawCopies.l0]
      rw [if_neg (by omega), if_neg z]
  | succ d ih =>
    intro m a s c hd hm hc hx h0 h1
    obtain ⟨r, ⟨r1, r2, r3⟩, r4⟩ := New_ l hl (st.length : Int) a s (by omega) h0 (by omega)
    obtain ⟨R, p1, p2⟩ := ih (m - 1) r.2.1 r.2.2 (c ++ [r.1]) (by omega) (by omega) (by simp; omega) (fun x h => by
      rcases List.mem_append.1 h with h | h
      · exact hx x h
      · rw [List.mem_singleton.1 h, r1]; omega) (by omega) (by omega)
    refine ⟨R, p1, Ev.step (h := fun k => (spec_l22New.f k l a s (st.length : Int)).bind fun t => spec_l22DrawCopies.l0 k st (c ++ [t.1]) n (m - 1) l t.2.1 t.2.2) (fun k => ?_) (Ev.bind r4 p2)⟩
    simp only [spec_l22DrawCopies.l0]
    rw [if_pos (by omega), w64 (n := m - 1) (by omega) (by omega)]
    congr 1; funext t
    rw [if_pos (by omega)]
theorem DrawCopies_ (l : List Int) (hl : ∀ x ∈ l, 0 ≤ x ∧ x ≤ 255) : EvP (fun k => spec_l22DrawCopies.f k l) (fun r => r.1.length ≤ 41 ∧ r.2.length ≤ 9 ∧ ∀ x ∈ r.2, x.length ≤ 42) := by
  obtain ⟨D, ⟨d1, d2, d3⟩, d4⟩ := Draw22_ l hl 0 0 (by omega) (by omega)
  obtain ⟨v, a', s', hv, g1, g2, g3, g4, g5, g6⟩ := Pick_ l hl D.2.1 D.2.2 5 (by omega) (by omega)
  obtain ⟨b, a2, s2, hb, q1, q2⟩ := One_ l hl a' s' 20 (by omega) (by omega)
  have := g5 (by omega)
  have fin : ∀ n a s : Int, n ≤ 9 → 0 ≤ a → a ≤ 100000 → EvP (fun k => spec_l22DrawCopies.j0 k D.1 [] n l a s) (fun r => r.1.length ≤ 41 ∧ r.2.length ≤ 9 ∧ ∀ x ∈ r.2, x.length ≤ 42) := fun n a s hn h0 h1 => by
    obtain ⟨R, ⟨p1, p2, p3⟩, p4⟩ := DrawCopies_l l hl D.1 d1 n hn n.toNat n a s [] rfl (Int.le_refl _) (by simp) (fun x h => by cases h) h0 (by omega)
    exact ⟨R, ⟨by rw [p1]; exact d1, p2, p3⟩, Ev.step (fun k => rfl) p4⟩
  cases b with
  | false =>
    obtain ⟨R, p1, p2⟩ := fin v a2 s2 (by omega) (by omega) (by omega)
    refine ⟨R, p1, Ev.eq (h := fun k => (spec_l22Draw.f k l 0 0).bind fun bt251 => ((spec_l00Src_pick.f l bt251.2.1 bt251.2.2 5).bind fun bt259 => ((spec_l00Src_one.f l bt259.2.1 bt259.2.2 20).bind fun bt262 => (if bt262.1 = true then ((spec_l00Src_pick.f l bt262.2.1 bt262.2.2 2).bind fun bt265 => (spec_l22DrawCopies.j0 k bt251.1 [] (wrap64 (8 + bt265.1)) l bt265.2.1 bt265.2.2)) else (spec_l22DrawCopies.j0 k bt251.1 [] bt259.1 l bt262.2.1 bt262.2.2))))) (fun k => rfl) (Ev.bind d4 (Ev.eq (fun k => ?_) p2))⟩
    rw [hv]; simp only [Option.bind_some]
    rw [hb]; rfl
  | true =>
    obtain ⟨u, a3, s3, hu, p1, p2, p3, p4, p5, p6⟩ := Pick_ l hl a2 s2 2 (by omega) (by omega)
    have := p5 (by omega)
    obtain ⟨R, p1, p2⟩ := fin (8 + u) a3 s3 (by omega) (by omega) (by omega)
    refine ⟨R, p1, Ev.eq (h := fun k => (spec_l22Draw.f k l 0 0).bind fun bt251 => ((spec_l00Src_pick.f l bt251.2.1 bt251.2.2 5).bind fun bt259 => ((spec_l00Src_one.f l bt259.2.1 bt259.2.2 20).bind fun bt262 => (if bt262.1 = true then ((spec_l00Src_pick.f l bt262.2.1 bt262.2.2 2).bind fun bt265 => (spec_l22DrawCopies.j0 k bt251.1 [] (wrap64 (8 + bt265.1)) l bt265.2.1 bt265.2.2)) else (spec_l22DrawCopies.j0 k bt251.1 [] bt259.1 l bt262.2.1 bt262.2.2))))) (fun k => rfl) (Ev.bind d4 (Ev.eq (fun k => ?_) p2))⟩
    rw [hv]; simp only [Option.bind_some]
    rw [hb]; simp only [Option.bind_some, if_true]
    rw [hu]; simp only [Option.bind_some]
    rw [w64 (n := 8 + u) (by omega) (by omega)]

theorem Min_ (a b : Int) : spec_l00Min.f a b = some (mn a b) := by
  unfold spec_l00Min.f mn
  by_cases h : a < b
  · rw [if_pos h, if_neg (by omega)]
  · rw [if_neg h]; by_cases h2 : b < a
    · rw [if_pos h2]
    · rw [if_neg h2, show a = b by omega]

theorem Steps_end (l : List Int) (hl : ∀ x ∈ l, 0 ≤ x ∧ x ≤ 255) (x1 own : List Int) (n a s : Int) (R : List IR) (hR : R.length ≤ 100) (h0 : 0 ≤ a) (h1 : a ≤ 10000000000) : EvP (fun k => spec_l22DrawSteps.j2 k x1 own R n false l a s) (fun r => r.1.length = R.length) := by
  by_cases c : (R.length : Int) > 0
  · obtain ⟨v, a', s', hv, g1, g2, g3, g4, g5, g6⟩ := Pick_ l hl a s (R.length : Int) h0 (by omega)
    have := g5 (by omega)
    obtain ⟨u, a2, s2, hu, q1, q2, q3, q4, q5, q6⟩ := Pick_ l hl a' s' 12 (by omega) (by omega)
    by_cases z0 : u = 0
    · obtain ⟨y, a3, s3, hy, _, _, _⟩ := Among_ l hl a2 s2 [-1, 0, wrap64 ((x1.length : Int) - 1), (x1.length : Int)] (by simp) (by omega) (by omega)
      refine ⟨(R.set v.toNat (⟨y, (rd_T64 R v).f1, (rd_T64 R v).f2⟩ : IR), a3, s3), by simp, Ev.now (fun k => ?_)⟩
      simp only [spec_l22DrawSteps.j2, Bool.false_eq_true, if_false]
      rw [if_pos c, hv]; simp only [Option.bind_some]
      rw [if_pos g3, if_pos (by omega), hu]; simp only [Option.bind_some]
      rw [if_pos z0, hy]; rfl
    · by_cases z1 : u = 1
      · obtain ⟨y, a3, s3, hy, _, _, _⟩ := Among_ l hl a2 s2 [-1, 0, 1, 2, 3, 4] (by simp) (by omega) (by omega)
        refine ⟨(R.set v.toNat (⟨(rd_T64 R v).f0, y, (rd_T64 R v).f2⟩ : IR), a3, s3), by simp, Ev.now (fun k => ?_)⟩
        simp only [spec_l22DrawSteps.j2, Bool.false_eq_true, if_false]
        rw [if_pos c, hv]; simp only [Option.bind_some]
        rw [if_pos g3, if_pos (by omega), hu]; simp only [Option.bind_some]
        rw [if_neg z0, if_pos z1, hy]; rfl
      · refine ⟨(R, a2, s2), rfl, Ev.now (fun k => ?_)⟩
        simp only [spec_l22DrawSteps.j2, Bool.false_eq_true, if_false]
        rw [if_pos c, hv]; simp only [Option.bind_some]
        rw [if_pos g3, if_pos (by omega), hu]; simp only [Option.bind_some]
        rw [if_neg z0, if_neg z1]
  · refine ⟨(R, a, s), rfl, Ev.now (fun k => ?_)⟩
    simp only [spec_l22DrawSteps.j2, Bool.false_eq_true, if_false]
    rw [if_neg c]
theorem Steps_l (l : List Int) (hl : ∀ x ∈ l, 0 ≤ x ∧ x ≤ 255) (x1 : List Int) : ∀ (d : Nat) (own : List Int) (n a s : Int) (R : List IR), n.toNat = d → n ≤ 1000 → own.length ≤ 1000 → R.length + d ≤ 100 → 0 ≤ a → a + 10 * d ≤ 1000000000 → EvP (fun k => spec_l22DrawSteps.l0 k x1 own R n l a s) (fun r => r.1.length ≤ R.length + d) := by
  intro d
  induction d with
  | zero =>
    intro own n a s R hd hn ho hR h0 h1
    obtain ⟨r, hr, e⟩ := Steps_end l hl x1 own n a s R (by omega) h0 (by omega)
    refine ⟨r, by omega, Ev.step (h := fun k => spec_l22DrawSteps.j2 k x1 own R n false l a s) (fun k => ?_) e⟩
    simp only [spec_l22DrawSteps.l0]
    rw [if_neg (by omega)]
  | succ d ih =>
    intro own n a s R hd hn ho hR h0 h1
    by_cases c : (own.length : Int) > 0
    · obtain ⟨v, a', s', hv, g1, g2, g3, g4, g5, g6⟩ := Pick_ l hl a s (own.length : Int) h0 (by omega)
      have := g5 (by omega)
      obtain ⟨u, a2, s2, hu, q1, q2, q3, q4, q5, q6⟩ := Pick_ l hl a' s' 3 (by omega) (by omega)
      obtain ⟨r, hr, e⟩ := ih (own.set v.toNat (Int.tmod (wrap64 ((wrap64 (mx 0 (mn 3 (rd own v)) + 1)) + u)) 4)) (n - 1) a2 s2 (R ++ [(⟨v, rd own v, Int.tmod (wrap64 ((wrap64 (mx 0 (mn 3 (rd own v)) + 1)) + u)) 4⟩ : IR)]) (by omega) (by omega) (by simpa using ho) (by simp; omega) (by omega) (by omega)
      refine ⟨r, by simp at hr; omega, Ev.step (h := fun k => spec_l22DrawSteps.j2 k x1 own R n (decide ((own.length : Int) > 0)) l a s) (fun k => ?_) (Ev.step (fun k => ?_) e)⟩
      · simp only [spec_l22DrawSteps.l0]
        rw [if_pos (by omega)]
      · simp only [spec_l22DrawSteps.j2]
        rw [if_pos (decide_eq_true c), hv]; simp only [Option.bind_some]
        rw [if_pos g3, if_pos (by omega), Min_]; simp only [Option.bind_some]
        rw [Max_]; simp only [Option.bind_some]
        rw [hu]; simp only [Option.bind_some]
        rw [if_pos (by omega), w64 (n := n - 1) (by omega) (by omega)]
    · obtain ⟨r, hr, e⟩ := Steps_end l hl x1 own n a s R (by omega) h0 (by omega)
      refine ⟨r, by omega, Ev.step (h := fun k => spec_l22DrawSteps.j2 k x1 own R n (decide ((own.length : Int) > 0)) l a s) (fun k => ?_) (by rw [decide_eq_false c]; exact e)⟩
      simp only [spec_l22DrawSteps.l0]
      rw [if_pos (by omega)]
theorem DrawBoth_ (l : List Int) (hl : ∀ x ∈ l, 0 ≤ x ∧ x ≤ 255) : EvP (fun k => spec_l22Both.f k l) (fun r => r.1.length ≤ 41 ∧ r.2.length ≤ 61) := by
  obtain ⟨D, ⟨d1, d2, d3⟩, d4⟩ := Draw22_ l hl 0 0 (by omega) (by omega)
  obtain ⟨v, a', s', hv, g1, g2, g3, g4, g5, g6⟩ := Pick_ l hl D.2.1 D.2.2 7 (by omega) (by omega)
  obtain ⟨b, a2, s2, hb, q1, q2⟩ := One_ l hl a' s' 20 (by omega) (by omega)
  have := g5 (by omega)
  have fin : ∀ n a s : Int, 0 ≤ n → n ≤ 61 → 0 ≤ a → a ≤ 100000 → EvP (fun k => spec_l22DrawSteps.j0 k D.1 D.1 [] n l a s) (fun r => r.1.length ≤ 61) := fun n a s n0 hn h0 h1 => by
    obtain ⟨R, p1, p2⟩ := Steps_l l hl D.1 n.toNat D.1 n a s [] rfl (by omega) (by omega) (by simp; omega) h0 (by omega)
    exact ⟨R, by simp at p1; omega, Ev.step (fun k => rfl) p2⟩
  have key : EvP (fun k => spec_l22DrawSteps.f k l D.2.1 D.2.2 D.1) (fun r => r.1.length ≤ 61) := by
    cases b with
    | false =>
      obtain ⟨R, p1, p2⟩ := fin v a2 s2 (by omega) (by omega) (by omega) (by omega)
      refine ⟨R, p1, Ev.eq (fun k => ?_) p2⟩
      unfold spec_l22DrawSteps.f
      rw [own22_ _ (by omega)]; simp only [Option.bind_some]
      rw [hv]; simp only [Option.bind_some]
      rw [hb]; rfl
    | true =>
      obtain ⟨u, a3, s3, hu, p1, p2, p3, p4, p5, p6⟩ := Pick_ l hl a2 s2 2 (by omega) (by omega)
      have := p5 (by omega)
      obtain ⟨R, p1, p2⟩ := fin (60 + u) a3 s3 (by omega) (by omega) (by omega) (by omega)
      refine ⟨R, p1, Ev.eq (fun k => ?_) p2⟩
      unfold spec_l22DrawSteps.f
      rw [own22_ _ (by omega)]; simp only [Option.bind_some]
      rw [hv]; simp only [Option.bind_some]
      rw [hb]; simp only [Option.bind_some, if_true]
      rw [hu]; simp only [Option.bind_some]
      rw [w64 (n := 60 + u) (by omega) (by omega)]
  obtain ⟨R, p1, p2⟩ := key
  refine ⟨(D.1, R.1), ⟨d1, p1⟩, Ev.eq (h := fun k => (spec_l22Draw.f k l 0 0).bind fun t => (spec_l22DrawSteps.f k l t.2.1 t.2.2 t.1).bind fun u => some (t.1, u.1)) (fun k => rfl) (Ev.bind d4 (Ev.bind p2 ⟨0, fun k _ => rfl⟩))⟩

theorem TextPick_ (l : List Int) (hl : ∀ x ∈ l, 0 ≤ x ∧ x ≤ 255) (a s : Int) (xs : List ByteArray) (hx : 0 < xs.length) (h0 : 0 ≤ a) (h1 : a ≤ 1000000000000) : ∃ v a' s', spec_l00Src_text.f l a s xs = some (v, a', s') ∧ a ≤ a' ∧ a' ≤ a + 2 ∧ v ∈ xs := by
  unfold spec_l00Src_text.f
  obtain ⟨v, a', s', h, g1, g2, g3, g4, g5, g6⟩ := Pick_ l hl a s xs.length h0 h1
  have := g5 (by omega)
  rw [h]; simp only [Option.bind_some]
  rw [if_pos g3, if_pos this]
  refine ⟨_, _, _, rfl, g1, g2, ?_⟩
  unfold rdOf
  rw [List.getD_eq_getElem?_getD, List.getElem?_eq_getElem (by omega)]
  exact List.getElem_mem _

theorem empty_toList : (⟨#[]⟩ : ByteArray).toList = [] := by
  rw [ByteArray.toList, ByteArray.toList.loop]; rfl

theorem Spoil_ (l : List Int) (hl : ∀ x ∈ l, 0 ≤ x ∧ x ≤ 255) (a s : Int) (t : ByteArray) (ht : t.size ≤ 1000) (h0 : 0 ≤ a) (h1 : a ≤ 1000000000) : ∃ u a' s', spec_l01Spoil.f l a s t = some (u, a', s') ∧ u.size ≤ t.size + 1 ∧ a ≤ a' ∧ a' ≤ a + 10 := by
  unfold spec_l01Spoil.f
  obtain ⟨v, a1, s1, hv, g1, g2, g3, g4, g5, g6⟩ := Pick_ l hl a s 5 h0 (by omega)
  rw [hv]; simp only [Option.bind_some]
  by_cases z0 : v = 0
  · obtain ⟨p, a2, s2, hp, p1, p2, p3, p4, p5, p6⟩ := Pick_ l hl a1 s1 ((t.size : Int) + 1) (by omega) (by omega)
    have hp1 : p < (t.size : Int) + 1 := by
      by_cases c : 1 ≤ (t.size : Int) + 1
      · exact p5 c
      · omega
    obtain ⟨x, a3, s3, hx, q1, q2, q3⟩ := TextPick_ l hl a2 s2 [(⟨#[32]⟩ : ByteArray), (⟨#[48]⟩ : ByteArray), (⟨#[45]⟩ : ByteArray), (⟨#[120]⟩ : ByteArray), (⟨#[49]⟩ : ByteArray), (⟨#[57]⟩ : ByteArray), (⟨#[46]⟩ : ByteArray)] (by simp) (by omega) (by omega)
    have hxs : x.size = 1 := by
      simp only [List.mem_cons, List.mem_nil_iff, or_false] at q3
      rcases q3 with rfl | rfl | rfl | rfl | rfl | rfl | rfl <;> rfl
    have e1 : (t.extract 0 p.toNat).size = p.toNat := by rw [ByteArray.size_extract]; omega
    have e2 : (t.extract p.toNat t.size).size = t.size - p.toNat := by rw [ByteArray.size_extract]; omega
    rw [if_pos z0, w64 (n := (t.size : Int) + 1) (by omega) (by omega), hp]; simp only [Option.bind_some]
    rw [if_pos p3, if_pos (by omega), hx]; simp only [Option.bind_some]
    rw [if_pos (by omega), if_pos (by rw [ByteArray.size_append]; omega)]
    exact ⟨_, _, _, rfl, by rw [ByteArray.size_append, ByteArray.size_append, e1, e2, hxs]; omega, by omega, by omega⟩
  · by_cases z1 : v = 1
    · rw [if_neg z0, if_pos z1]
      by_cases hn : t.toList = ([] : List UInt8)
      · rw [if_pos hn]; exact ⟨_, _, _, rfl, by omega, by omega, by omega⟩
      · have hpos : 0 < t.size := by
          rcases Nat.eq_zero_or_pos t.size with h | h
          · exfalso; apply hn
            have : t = ByteArray.empty := by
              apply ByteArray.ext; apply Array.eq_empty_of_size_eq_zero; exact h
            rw [this]; exact empty_toList
          · exact h
        obtain ⟨p, a2, s2, hp, p1, p2, p3, p4, p5, p6⟩ := Pick_ l hl a1 s1 (t.size : Int) (by omega) (by omega)
        have := p5 (by omega)
        have e1 : (t.extract 0 p.toNat).size = p.toNat := by rw [ByteArray.size_extract]; omega
        have e2 : (t.extract (p + 1).toNat t.size).size = t.size - (p + 1).toNat := by rw [ByteArray.size_extract]; omega
        rw [if_neg hn, hp]; simp only [Option.bind_some]
        rw [if_pos p3, if_pos (by omega), w64 (n := p + 1) (by omega) (by omega), if_pos (by omega), if_pos (by omega), if_pos (by omega)]
        exact ⟨_, _, _, rfl, by rw [ByteArray.size_append, e1, e2]; omega, by omega, by omega⟩
    · rw [if_neg z0, if_neg z1]; exact ⟨_, _, _, rfl, by omega, by omega, by omega⟩

theorem specText_l (g : List Int) (hg : okT g = true) : ∀ (d k : Nat) (i : Int), (g.length : Int) - i = d → 0 ≤ i → d < k → spec_l22Text.l0 k g (strOfNums (lets (g.take i.toNat))) lit4 i = some (strOfNums (lets g)) := by
  obtain ⟨g1, g2, g3⟩ := okT_says hg
  intro d
  induction d with
  | zero =>
    intro k i hd h0 hk
    obtain ⟨k, rfl⟩ : ∃ m, k = m + 1 := ⟨k - 1, by omega⟩
    simp only [spec_l22Text.l0]; rw [if_neg (by omega), List.take_of_length_le (by omega)]
  | succ d ih =>
    intro k i hd h0 hk
    obtain ⟨k, rfl⟩ : ∃ m, k = m + 1 := ⟨k - 1, by omega⟩
    have hx := g3 i h0 (by omega)
    have hl : (lets (g.take i.toNat)).length ≤ 40 := by unfold lets; rw [List.length_map, List.length_take]; omega
    have tk : g.take (i + 1).toNat = g.take i.toNat ++ [rd g i] := by
      rw [show (i + 1).toNat = i.toNat + 1 by omega, List.take_succ_eq_append_getElem (by omega)]
      unfold rd
      rw [List.getD_eq_getElem?_getD, List.getElem?_eq_getElem (by omega)]; rfl
    simp only [spec_l22Text.l0]
    rw [if_pos (by omega), if_pos h0, if_pos hx.1, w64 (n := rd g i + 1) (by omega) (by omega), if_pos (by omega), if_pos (show rd g i + 1 ≤ (lit4.size : Int) by rw [show lit4.size = 4 from rfl]; omega), lit_cut _ hx.1 hx.2, if_pos (by rw [strOfNums_size, lit_one]; omega), w64 (by omega) (by omega), ← str_append]
    have e : lets (g.take i.toNat) ++ [bt lit4 (rd g i)] = lets (g.take (i + 1).toNat) := by rw [tk]; simp [lets]
    rw [e]
    exact ih k (i + 1) (by omega) (by omega) (by omega)
theorem SpecText_ (g : List Int) (hl : g.length ≤ 1048576) (k : Nat) (hk : 1048700 ≤ k) : spec_StatesText.f k g = some (if okT g = true then strOfNums (lets g) else ⟨#[]⟩) := by
  unfold spec_StatesText.f
  rw [SpecOkT_ g hl k (by omega)]; simp only [Option.bind_some]
  by_cases h : okT g = true
  · have := okT_says h
    rw [if_pos h, if_pos h]
    have e : spec_l22Text.f k g = some (strOfNums (lets g)) := specText_l g h g.length k 0 (by omega) (by omega) (by omega)
    rw [e]; rfl
  · rw [if_neg h, if_neg h]

theorem New2_l (l : List Int) (hl : ∀ x ∈ l, 0 ≤ x ∧ x ≤ 255) : ∀ (d : Nat) (n a s : Int) (R : List Int), n.toNat = d → n ≤ 1000 → R.length + d ≤ 1000 → 0 ≤ a → a + 2 * d ≤ 100000000000 → (∀ x ∈ R, 0 ≤ x ∧ x ≤ 3) → EvP (fun k => spec_l22New.l0 k R n l a s) (fun r => (∀ x ∈ r.1, 0 ≤ x ∧ x ≤ 3) ∧ r.1.length = R.length + d ∧ a ≤ r.2.1 ∧ r.2.1 ≤ a + 2 * d) := by
  intro d
  induction d with
  | zero =>
    intro n a s R hd hn hR h0 h1 hx
    refine ⟨(R, a, s), ⟨hx, rfl, Int.le_refl _, by show a ≤ a + 2 * ((0 : Nat) : Int); omega⟩, Ev.now (fun k => ?_)⟩
    simp only [spec_l22New.l0]
    rw [if_neg (by omega)]
  | succ d ih =>
    intro n a s R hd hn hR h0 h1 hx
    obtain ⟨v, a', s', hv, g1, g2, g3, g4, g5, g6⟩ := Pick_ l hl a s 6 h0 (by omega)
    have := g5 (by omega)
    refine EvP.step (h := fun k => spec_l22New.l0 k (R ++ [mx 0 (v - 2)]) (n - 1) l a' s') (fun k => ?_) ?_
    · simp only [spec_l22New.l0]
      rw [if_pos (by omega), hv]; simp only [Option.bind_some]
      rw [w64 (n := v - 2) (by omega) (by omega), Max_]; simp only [Option.bind_some]
      rw [if_pos (by omega), w64 (n := n - 1) (by omega) (by omega)]
    · obtain ⟨r, ⟨r0, r1, r2, r3⟩, r4⟩ := ih (n - 1) a' s' (R ++ [mx 0 (v - 2)]) (by omega) (by omega) (by simp; omega) (by omega) (by omega) (fun x h => by
        rcases List.mem_append.1 h with h | h
        · exact hx x h
        · rw [List.mem_singleton.1 h]; unfold mx; split <;> omega)
      exact ⟨r, ⟨r0, by rw [r1]; simp; omega, by omega, by omega⟩, r4⟩
theorem ReadFill_ (m : Int) (hm : m ≤ 1000) : ∀ (d : Nat) (t : ByteArray), (m - t.size).toNat = d → t.size ≤ 1000 → EvP (fun k => spec_DrawReadStates.l0 k t m) (fun r => r.size ≤ 1000) := by
  intro d
  induction d with
  | zero =>
    intro t hd ht
    refine ⟨t, ht, Ev.now (fun k => ?_)⟩
    simp only [spec_DrawReadStates.l0]
    rw [if_neg (by omega)]
  | succ d ih =>
    intro t hd ht
    have hs : (t ++ (⟨#[111]⟩ : ByteArray)).size = t.size + 1 := by rw [ByteArray.size_append]; rfl
    obtain ⟨r, h1, h2⟩ := ih (t ++ (⟨#[111]⟩ : ByteArray)) (by omega) (by omega)
    refine ⟨r, h1, Ev.step (fun k => ?_) h2⟩
    simp only [spec_DrawReadStates.l0]
    rw [if_pos (by omega), if_pos (by omega)]
theorem DrawRead_ (l : List Int) (hl : ∀ x ∈ l, 0 ≤ x ∧ x ≤ 255) : EvP (fun k => spec_DrawReadStates.f k l) (fun r => r.size ≤ 1000) := by
  obtain ⟨n, a, s, hn, g1, g2, g3, g4, g5, g6⟩ := Pick_ l hl 0 0 9 (by omega) (by omega)
  have := g5 (by omega)
  obtain ⟨N, ⟨n0, n1, n2, n3⟩, n4⟩ := New2_l l hl n.toNat n a s [] rfl (by omega) (by simp; omega) (by omega) (by omega) (fun x h => by cases h)
  have nl : N.1.length ≤ 8 := by rw [n1]; simp; omega
  have ok : okT N.1 = true := by
    unfold okT
    rw [decide_eq_true (by omega), Bool.true_and]
    exact List.all_eq_true.2 (fun x hx => decide_eq_true (n0 x hx))
  have hT : Ev (fun k => spec_l22Text.f k N.1) (strOfNums (lets N.1)) := ⟨50, fun k hk => specText_l N.1 ok N.1.length k 0 (by omega) (by omega) (by omega)⟩
  have hz : (strOfNums (lets N.1)).size ≤ 8 := by rw [strOfNums_size]; unfold lets; rw [List.length_map]; exact nl
  generalize strOfNums (lets N.1) = t at hT hz
  obtain ⟨v, a1, s1, hv, p1, p2, p3, p4, p5, p6⟩ := Pick_ l hl N.2.1 N.2.2 6 (by omega) (by omega)
  have key : EvP (fun k => if v = 0 then ((spec_l01Spoil.f l a1 s1 t).bind fun b => some b.1) else (if v = 1 then ((spec_l00Src_pick.f l a1 s1 2).bind fun b => spec_DrawReadStates.l0 k t (wrap64 (40 + b.1))) else some t)) (fun r => r.size ≤ 1000) := by
    by_cases z0 : v = 0
    · obtain ⟨u, a2, s2, hu, q1, q2, q3⟩ := Spoil_ l hl a1 s1 t (by omega) (by omega) (by omega)
      refine ⟨u, by omega, ⟨0, fun k _ => ?_⟩⟩
      show (if v = 0 then ((spec_l01Spoil.f l a1 s1 t).bind fun b => some b.1) else (if v = 1 then ((spec_l00Src_pick.f l a1 s1 2).bind fun b => spec_DrawReadStates.l0 k t (wrap64 (40 + b.1))) else some t)) = some u
      rw [if_pos z0, hu]; rfl
    · by_cases z1 : v = 1
      · obtain ⟨u, a2, s2, hu, q1, q2, q3, q4, q5, q6⟩ := Pick_ l hl a1 s1 2 (by omega) (by omega)
        have := q5 (by omega)
        obtain ⟨r, r1, r2⟩ := ReadFill_ (40 + u) (by omega) _ t rfl (by omega)
        refine ⟨r, r1, Ev.eq (fun k => ?_) r2⟩
        rw [if_neg z0, if_pos z1, hu]; simp only [Option.bind_some]
        rw [w64 (n := 40 + u) (by omega) (by omega)]
      · exact ⟨t, by omega, ⟨0, fun k _ => by rw [show (fun k => if v = 0 then ((spec_l01Spoil.f l a1 s1 t).bind fun b => some b.1) else (if v = 1 then ((spec_l00Src_pick.f l a1 s1 2).bind fun b => spec_DrawReadStates.l0 k t (wrap64 (40 + b.1))) else some t)) k = some t from by show (if v = 0 then _ else _) = _; rw [if_neg z0, if_neg z1]]⟩⟩
  obtain ⟨r, r1, r2⟩ := key
  refine ⟨r, r1, Ev.eq (h := fun k => (spec_l22New.f k l a s n).bind fun N => (spec_l22Text.f k N.1).bind fun t => (spec_l00Src_pick.f l N.2.1 N.2.2 6).bind fun v => if v.1 = 0 then ((spec_l01Spoil.f l v.2.1 v.2.2 t).bind fun b => some b.1) else (if v.1 = 1 then ((spec_l00Src_pick.f l v.2.1 v.2.2 2).bind fun b => spec_DrawReadStates.l0 k t (wrap64 (40 + b.1))) else some t)) (fun k => ?_) (Ev.bind n4 (Ev.bind hT (Ev.eq (fun k => ?_) r2)))⟩
  · unfold spec_DrawReadStates.f spec_l00From.f
    simp only [Option.bind_some]
    rw [hn]; rfl
  · rw [hv]; rfl

theorem specRead_l (s : ByteArray) (hs : s.size ≤ 1048576) : ∀ (d k : Nat) (i : Int) (a : List Int), (s.size : Int) - i = d → 0 ≤ i → (a.length : Int) = i → d + 1048579 ≤ k → spec_ReadStates.l0 k s a i = some (readR (a ++ from_ (stAt s) i d)) := by
  intro d
  induction d with
  | zero =>
    intro k i a hd h0 ha hk
    obtain ⟨k, rfl⟩ : ∃ m, k = m + 1 := ⟨k - 1, by omega⟩
    simp only [spec_ReadStates.l0]; rw [if_neg (by omega), SpecOkT_ a (by omega) k (by omega)]
    simp only [Option.bind_some, from_, List.range_zero, List.map_nil, List.append_nil, readR]
    split <;> rfl
  | succ d ih =>
    intro k i a hd h0 ha hk
    obtain ⟨k, rfl⟩ : ∃ m, k = m + 1 := ⟨k - 1, by omega⟩
    simp only [spec_ReadStates.l0]
    rw [if_pos (by omega), if_pos h0, w64 (by omega) (by omega), from_succ]
    have hl : a.length < 17592186044416 := by omega
    simp only [if_pos hl]
    have step : ∀ v : Int, spec_ReadStates.l0 k s (a ++ [v]) (i + 1) = some (readR (a ++ v :: from_ (stAt s) (i + 1) d)) := fun v => by
      rw [ih k (i + 1) _ (by omega) (by omega) (by simp; omega) (by omega)]; simp
    simp only [step]
    by_cases c1 : bt s i = 111
    · rw [if_pos c1]; simp [stAt, stOf, c1]
    rw [if_neg c1]
    by_cases c2 : bt s i = 100
    · rw [if_pos c2]; simp [stAt, stOf, c2]
    rw [if_neg c2]
    by_cases c3 : bt s i = 99
    · rw [if_pos c3]; simp [stAt, stOf, c3]
    rw [if_neg c3]
    by_cases c4 : bt s i = 110
    · rw [if_pos c4]; simp [stAt, stOf, c4]
    rw [if_neg c4]
    have e : stAt s i = -1 := by simp [stAt, stOf, c1, c2, c3, c4]
    have : okT (a ++ stAt s i :: from_ (stAt s) (i + 1) d) = false := okT_bad (by simp [e])
    simp [readR, this]
theorem SpecRead_ (s : ByteArray) (hs : s.size ≤ 1048576) (k : Nat) (hk : 2097200 ≤ k) : spec_ReadStates.f k s = some (readR (from_ (stAt s) 0 s.size)) := by
  unfold spec_ReadStates.f
  rw [specRead_l s hs s.size k 0 [] (by omega) (by omega) (by simp) (by omega)]; simp

theorem implRead_l (s : ByteArray) (hs : s.size ≤ 1048576) : ∀ (d k : Nat) (i : Int) (a : List Int), (s.size : Int) - i = d → 0 ≤ i → (a.length : Int) = i → d < k → impl_ReadStates.l0 k s a s.size i = some (readR (a ++ from_ (stAt s) i d)) := by
  intro d
  induction d with
  | zero =>
    intro k i a hd h0 ha hk
    obtain ⟨k, rfl⟩ : ∃ m, k = m + 1 := ⟨k - 1, by omega⟩
    simp only [impl_ReadStates.l0]; rw [if_neg (by omega), ImplOkT_ a]
    simp only [Option.bind_some, from_, List.range_zero, List.map_nil, List.append_nil, readR]
    split <;> rfl
  | succ d ih =>
    intro k i a hd h0 ha hk
    obtain ⟨k, rfl⟩ : ∃ m, k = m + 1 := ⟨k - 1, by omega⟩
    obtain ⟨b0, b1⟩ := bt_range s i
    simp only [impl_ReadStates.l0]
    rw [if_pos (by omega), if_pos h0, if_pos (by omega), w64 (by omega) (by omega), from_succ]
    have e : strings_IndexByte.f (⟨#[111, 100, 99, 110]⟩ : ByteArray) (bt s i) = some (stAt s i) := by
      unfold strings_IndexByte.f
      rw [index_st _ b0 (by omega)]; rfl
    rw [e]; simp only [Option.bind_some]
    rw [if_pos (by omega), ih k (i + 1) _ (by omega) (by omega) (by simp; omega) (by omega)]; simp
theorem ImplRead_ (s : ByteArray) (hs : s.size ≤ 1048576) (k : Nat) (hk : 2097200 ≤ k) : impl_ReadStates.f k s = some (readR (from_ (stAt s) 0 s.size)) := by
  unfold impl_ReadStates.f
  rw [implRead_l s hs s.size k 0 [] (by omega) (by omega) (by simp) (by omega)]; simp

theorem implText_l (g : List Int) (hg : okT g = true) : ∀ (d k : Nat) (i : Int), (g.length : Int) - i = d → 0 ≤ i → d < k → impl_StatesText.l0 k (lets (g.take i.toNat)) g g.length i = some (strOfNums (lets g)) := by
  obtain ⟨g1, g2, g3⟩ := okT_says hg
  intro d
  induction d with
  | zero =>
    intro k i hd h0 hk
    obtain ⟨k, rfl⟩ : ∃ m, k = m + 1 := ⟨k - 1, by omega⟩
    simp only [impl_StatesText.l0]; rw [if_neg (by omega), List.take_of_length_le (by omega)]
  | succ d ih =>
    intro k i hd h0 hk
    obtain ⟨k, rfl⟩ : ∃ m, k = m + 1 := ⟨k - 1, by omega⟩
    have hx := g3 i h0 (by omega)
    have hl : (lets (g.take i.toNat)).length ≤ 40 := by unfold lets; rw [List.length_map, List.length_take]; omega
    have tk : g.take (i + 1).toNat = g.take i.toNat ++ [rd g i] := by
      rw [show (i + 1).toNat = i.toNat + 1 by omega, List.take_succ_eq_append_getElem (by omega)]
      unfold rd
      rw [List.getD_eq_getElem?_getD, List.getElem?_eq_getElem (by omega)]; rfl
    simp only [impl_StatesText.l0]
    rw [if_pos (by omega), if_pos h0, if_pos (by omega), if_pos hx.1, if_pos (by omega), if_pos (by omega), w64 (by omega) (by omega)]
    have e : lets (g.take i.toNat) ++ [bt lit4 (rd g i)] = lets (g.take (i + 1).toNat) := by rw [tk]; simp [lets]
    change impl_StatesText.l0 k (lets (g.take i.toNat) ++ [bt lit4 (rd g i)]) g g.length (i + 1) = _
    rw [e]
    exact ih k (i + 1) (by omega) (by omega) (by omega)
theorem ImplText_ (g : List Int) (k : Nat) (hk : 50 ≤ k) : impl_StatesText.f k g = some (if okT g = true then strOfNums (lets g) else ⟨#[]⟩) := by
  unfold impl_StatesText.f
  rw [ImplOkT_ g]; simp only [Option.bind_some]
  by_cases h : okT g = true
  · have := okT_says h
    rw [if_pos h, if_pos h]
    exact implText_l g h g.length k 0 (by omega) (by omega) (by omega)
  · rw [if_neg h, if_neg h]

theorem implCounts_l (g : List Int) (hg : okT g = true) : ∀ (d k : Nat) (i : Int), (g.length : Int) - i = d → 0 ≤ i → d < k → impl_CountStates.l0 k (cnt4 (g.take i.toNat)) g g.length i = some (cnt4 g, 0) := by
  obtain ⟨g1, g2, g3⟩ := okT_says hg
  intro d
  induction d with
  | zero =>
    intro k i hd h0 hk
    obtain ⟨k, rfl⟩ : ∃ m, k = m + 1 := ⟨k - 1, by omega⟩
    simp only [impl_CountStates.l0]; rw [if_neg (by omega), List.take_of_length_le (by omega)]
  | succ d ih =>
    intro k i hd h0 hk
    obtain ⟨k, rfl⟩ : ∃ m, k = m + 1 := ⟨k - 1, by omega⟩
    have hx := g3 i h0 (by omega)
    have hc : ((List.count (rd g i) (g.take i.toNat) : Nat) : Int) ≤ 40 := by
      have := List.count_le_length (a := rd g i) (l := g.take i.toNat)
      have : (g.take i.toNat).length ≤ g.length := by rw [List.length_take]; omega
      omega
    simp only [impl_CountStates.l0]
    rw [if_pos (by omega), if_pos h0, if_pos (by omega), if_pos hx.1, if_pos (by rw [cnt4_len]; omega), w64 (n := i + 1) (by omega) (by omega), w64 (n := rd (cnt4 (g.take i.toNat)) (rd g i) + 1) (by rw [rd_cnt4 _ _ hx.1 (by omega)]; omega) (by rw [rd_cnt4 _ _ hx.1 (by omega)]; omega), cnt4_step _ _ hx.1 hx.2, ← take_rd g i h0 (by omega)]
    exact ih k (i + 1) (by omega) (by omega) (by omega)
theorem ImplCountStates_ (g : List Int) (k : Nat) (hk : 50 ≤ k) : impl_CountStates.f k g = some (if okT g = true then (cnt4 g, 0) else ([], 1)) := by
  unfold impl_CountStates.f
  rw [ImplOkT_ g]; simp only [Option.bind_some]
  by_cases h : okT g = true
  · have := okT_says h
    rw [if_pos h, if_pos h, if_pos (by omega), cnt4_nil]
    exact implCounts_l g h g.length k 0 (by omega) (by omega) (by omega)
  · rw [if_neg h, if_neg h]

theorem f6ints_l (l : List Int) (hl : l.length ≤ 1152921504606846976) : ∀ (d k : Nat) (i : Int), (l.length : Int) - i = d → 0 ≤ i → d < k → laws_f6ints.l0 k l l i = some true := by
  intro d
  induction d with
  | zero =>
    intro k i hd h0 hk
    obtain ⟨k, rfl⟩ : ∃ m, k = m + 1 := ⟨k - 1, by omega⟩
    simp only [laws_f6ints.l0]; rw [if_neg (by omega)]
  | succ d ih =>
    intro k i hd h0 hk
    obtain ⟨k, rfl⟩ : ∃ m, k = m + 1 := ⟨k - 1, by omega⟩
    simp only [laws_f6ints.l0]
    rw [if_pos (by omega), if_pos h0, if_pos (by omega), if_pos trivial, w64 (by omega) (by omega)]
    exact ih k (i + 1) (by omega) (by omega) (by omega)
theorem f6ints_ (l : List Int) (hl : l.length ≤ 1152921504606846976) (k : Nat) (hk : l.length < k) : laws_f6ints.f k l l = some true := by
  unfold laws_f6ints.f
  rw [if_pos rfl]; exact f6ints_l l hl l.length k 0 (by omega) (by omega) hk

theorem bytes_of {l : List Int} (h : ∀ x ∈ l, (Lit.int .u8 x).wf = true) : ∀ x ∈ l, 0 ≤ x ∧ x ≤ 255 := by
  intro x hx
  simpa [Lit.wf, IntKind.min, IntKind.max, IntKind.signed, IntKind.bits] using h x hx

theorem own_ (l : List Int) (hl : l.length ≤ 1048576) : spec_l00Own.f l = some l := by
  unfold spec_l00Own.f
  simp only [Option.bind_some]
  rw [if_pos (by simp; omega)]; simp
theorem specApply_l (n : Nat) (s : List IR) (hs : s.length ≤ 1048576) (hok : ∀ x ∈ s, 0 ≤ x.f0 ∧ x.f0 < n) : ∀ (d : Nat) (i : Int) (a : List Int), (s.length : Int) - i = d → 0 ≤ i → a.length = n → ∃ r : List Int × Int, r.1.length ≤ n ∧ ∀ k, d < k → spec_ApplyRepairs.l0 k s a i = some r := by
  intro d
  induction d with
  | zero =>
    intro i a hd h0 ha
    refine ⟨(a, 0), by simp [ha], fun k hk => ?_⟩
    obtain ⟨k, rfl⟩ : ∃ m, k = m + 1 := ⟨k - 1, by omega⟩
    simp only [spec_ApplyRepairs.l0]; rw [if_neg (by omega)]
  | succ d ih =>
    intro i a hd h0 ha
    obtain ⟨b1, b2⟩ := hok (rd_T64 s i) (gd_in _ _ _ h0 (by omega))
    by_cases c : rd a (rd_T64 s i).f0 = (rd_T64 s i).f1
    · obtain ⟨r, hr, h⟩ := ih (i + 1) (a.set (rd_T64 s i).f0.toNat (rd_T64 s i).f2) (by omega) (by omega) (by simpa using ha)
      refine ⟨r, hr, fun k hk => ?_⟩
      obtain ⟨k, rfl⟩ : ∃ m, k = m + 1 := ⟨k - 1, by omega⟩
      simp only [spec_ApplyRepairs.l0]
      rw [if_pos (by omega), if_pos h0, if_pos b1, if_pos (by omega), if_pos c, w64 (by omega) (by omega)]
      exact h k (by omega)
    · refine ⟨([], 9), by simp, fun k hk => ?_⟩
      obtain ⟨k, rfl⟩ : ∃ m, k = m + 1 := ⟨k - 1, by omega⟩
      simp only [spec_ApplyRepairs.l0]
      rw [if_pos (by omega), if_pos h0, if_pos b1, if_pos (by omega), if_neg c]
theorem SpecApply_ (l : List Int) (hl : l.length ≤ 1048576) (s : List IR) : ∃ r : List Int × Int, r.1.length ≤ 1048576 ∧ ∀ k, 1048577 ≤ k → spec_ApplyRepairs.f k l s = some r := by
  by_cases c : codeT l s = 0
  · obtain ⟨h1, h2, h3⟩ := codeT_says c
    obtain ⟨r, hr, h⟩ := specApply_l l.length s (by omega) (fun x hx => ⟨(h3 x hx).1, (h3 x hx).2.1⟩) s.length 0 l (by omega) (by omega) rfl
    refine ⟨r, by omega, fun k hk => ?_⟩
    unfold spec_ApplyRepairs.f
    rw [SpecCodeT_ l hl s k hk]; simp only [Option.bind_some]
    rw [if_pos c, own_ l hl]; simp only [Option.bind_some]
    exact h k (by omega)
  · refine ⟨([], codeT l s), by simp, fun k hk => ?_⟩
    unfold spec_ApplyRepairs.f
    rw [SpecCodeT_ l hl s k hk]; simp only [Option.bind_some]
    rw [if_neg c]

theorem implApply_l (s : List IR) (n : Int) : n = s.length → ∀ (k : Nat) (a : List Int) (i : Int), impl_applyRepairs.l0 k a s n i = spec_ApplyRepairs.l0 k s a i
  | hn, 0, _, _ => rfl
  | hn, k + 1, a, i => by
    subst hn
    simp only [impl_applyRepairs.l0, spec_ApplyRepairs.l0, implApply_l s _ rfl k]
    by_cases h : i < (s.length : Int)
    · by_cases h0 : 0 ≤ i
      · simp only [if_pos h, if_pos h0]
      · simp only [if_pos h, if_neg h0]
    · simp only [if_neg h]
theorem ImplApply_ (k : Nat) (hk : 1048577 ≤ k) (l : List Int) (hl : l.length ≤ 1048576) (s : List IR) : impl_ApplyRepairs.f k l s = spec_ApplyRepairs.f k l s := by
  unfold impl_ApplyRepairs.f spec_ApplyRepairs.f impl_applyRepairs.f
  rw [SpecCodeT_ l hl s k hk, ImplCodeT_, own_ l hl]; simp only [Option.bind_some]
  have e : slices_Clone_int64_int64.f l = some l := by unfold slices_Clone_int64_int64.f; rw [if_pos (by omega)]
  rw [e]; simp only [Option.bind_some, implApply_l s _ rfl]
  split
  · cases spec_ApplyRepairs.l0 k s l 0 <;> rfl
  · rfl

theorem Rp_0 (s x : List Int) (t : List IR) (cd : Int) (c : List Int) (R : List IR) (q : Int) (hR : R.length ≤ 1000) (hx : x.length ≤ 1000) (hs : s.length ≤ 1000) (h1 : cd = 0 → undoR x t = (s, 0)) (h2 : q = 0 → ∃ y, applyR c R = (y, 0) ∧ okT y = true ∧ y.count 1 = 0 ∧ y.length ≤ 40) (hc : c.length ≤ 1000) : ∀ (d i : Nat), R.length - i = d → i ≤ R.length → Ev (fun k => laws_FnRepairs.l0 k s t x cd c R q R (i : Int)) true := by
  have j3 : Ev (fun k => laws_FnRepairs.j3 k s t x cd) true := by
    by_cases z : cd = 0
    · have hu := ImplUndo_ x (by omega) t
      rw [h1 z] at hu
      refine Ev.step (h := fun k => (impl_UndoRepairs.f k x t).bind fun u => if u.2 = 0 then ((laws_f6ints.f k u.1 s).bind fun e => some e) else none) (fun k => by simp only [laws_FnRepairs.j3]; rw [if_pos z]) (Ev.bind hu ⟨2000, fun k hk => ?_⟩)
      simp only [if_true]
      rw [f6ints_ s (by omega) k (by omega)]; rfl
    · exact Ev.now (fun k => by simp only [laws_FnRepairs.j3]; rw [if_neg z])
  intro d
  induction d with
  | zero =>
    intro i hd hi
    by_cases z : q = 0
    · obtain ⟨y, y1, y2, y3, y4⟩ := h2 z
      have ha := ImplApply2_ c (by omega) R
      rw [y1] at ha
      refine Ev.step (h := fun k => (impl_ApplyRepairs.f k c R).bind fun u => (impl_CountStates.f k u.1).bind fun m => if u.2 = 0 then (if m.2 = 0 then (if (m.1.length : Int) = 4 then (if 1 < (m.1.length : Int) then (if rd m.1 1 = 0 then laws_FnRepairs.j3 k s t x cd else none) else none) else none) else none) else none) (fun k => ?_) (Ev.bind ha (Ev.bind (t := (cnt4 y, 0)) ⟨1000, fun k hk => ?_⟩ ?_))
      · simp only [laws_FnRepairs.l0]
        rw [if_neg (by omega), if_pos z]
      · show impl_CountStates.f k y = some (cnt4 y, 0)
        rw [ImplCountStates_ y k (by omega), if_pos y2]
      · refine Ev.eq (fun k => ?_) j3
        simp only [if_true, cnt4_len]
        rw [if_pos (by omega), if_pos (by omega), rd_cnt4 y 1 (by omega) (by omega), if_pos (by omega)]
    · refine Ev.step (fun k => ?_) j3
      simp only [laws_FnRepairs.l0]
      rw [if_neg (by omega), if_neg z]
  | succ d ih =>
    intro i hd hi
    refine Ev.step (h := fun k => laws_FnRepairs.l0 k s t x cd c R q R ((i + 1 : Nat) : Int)) (fun k => ?_) (ih (i + 1) (by omega) (by omega))
    simp only [laws_FnRepairs.l0]
    rw [if_pos (by omega), if_pos (by omega), if_pos (by omega), if_neg (by simp), w64 (n := (i : Int) + 1) (by omega) (by omega)]; rfl
theorem applyR_len (l : List Int) (s : List IR) : (applyR l s).1.length ≤ l.length := by
  unfold applyR
  split
  · exact appl_len _ _
  · simp
theorem FnRepairs : laws_FnRepairs.Pure := by
  intro l _ _ hl
  have hl := bytes_of hl
  by_cases hb : (l.length : Int) > 4096
  · exact ⟨0, by
      unfold laws_FnRepairs.f
      rw [show laws_f6big.f l = some (decide ((l.length : Int) > 4096)) from rfl, decide_eq_true hb]; rfl⟩
  obtain ⟨⟨s, t⟩, ⟨hs, ht⟩, K1, e1⟩ := DrawBoth_ l hl
  obtain ⟨⟨c, C⟩, ⟨hc, hC, hCx⟩, K2, e2⟩ := DrawCopies_ l hl
  obtain ⟨⟨m, m2, m3⟩, ⟨hm, _, _⟩, K3, e3⟩ := Draw22_ l hl 0 0 (by omega) (by omega)
  obtain ⟨T, hT, K4, e4⟩ := DrawRead_ l hl
  dsimp only at e1 e2 e3 e4 hs ht hc hC hCx hm
  obtain ⟨K5, e5⟩ := ImplApply2_ s (by omega) t
  have hSA : ∀ k, 1048577 + K5 ≤ k → spec_ApplyRepairs.f k s t = some (applyR s t) := fun k hk => (ImplApply_ k (by omega) s (by omega) t).symm.trans (e5 k (by omega))
  dsimp only at e5
  obtain ⟨⟨u, v⟩, huv⟩ : ∃ p : List Int × List IR, p = if (applyR s t).2 = 0 then ((applyR s t).1, t) else (s, t) := ⟨_, rfl⟩
  have hal := applyR_len s t
  have hu : u.length ≤ 41 := by
    by_cases z : (applyR s t).2 = 0
    · rw [if_pos z] at huv; obtain ⟨rfl, rfl⟩ := Prod.mk.inj huv; omega
    · rw [if_neg z] at huv; obtain ⟨rfl, rfl⟩ := Prod.mk.inj huv; omega
  obtain ⟨K6, e6⟩ := ImplUndo_ u (by omega) v
  obtain ⟨K7, e7⟩ := SpecUndo_ u (by omega) v
  have htot : ∀ (c : List (List Int)), (∀ x ∈ c, x.length ≤ 42) → tot c ≤ 42 * c.length := by
    intro c
    induction c with
    | nil => intro _; simp [tot]
    | cons x c ih =>
      intro h
      have h1 := h x List.mem_cons_self
      have h2 := ih (fun y hy => h y (List.mem_cons_of_mem _ hy))
      rw [tot_cons, List.length_cons]; omega
  have htC := htot C hCx
  obtain ⟨K8, e8⟩ := ImplRepairsFor_ c C
  obtain ⟨K9, e9⟩ := SpecRepairsFor_ c (by omega) C (by omega) (by omega)
  dsimp only at e6 e7 e8 e9
  have hrl : (repairsR c C).1.length ≤ 41 := by
    unfold repairsR
    by_cases q : codeC c C = 0
    · rw [if_pos q]; have := repsF_len c C c.length 0; show (repsF c C c.length 0).length ≤ _; omega
    · rw [if_neg q]; simp
  have hheal := repairs_heal c C
  have hback : (applyR s t).2 = 0 → undoR (applyR s t).1 t = (s, 0) := fun h => undo_back s t _ (by rw [← h])
  obtain ⟨K10, e10⟩ := Rp_0 s (applyR s t).1 t (applyR s t).2 c (repairsR c C).1 (repairsR c C).2 (by omega) (by omega) (by omega) hback hheal (by omega) (repairsR c C).1.length 0 rfl (by omega)
  dsimp only at e10
  obtain ⟨txt, htxt⟩ : ∃ x, x = (if okT m = true then strOfNums (lets m) else (⟨#[]⟩ : ByteArray)) := ⟨_, rfl⟩
  have htz : txt.size ≤ 41 := by
    rw [htxt]; split
    · rw [strOfNums_size]; unfold lets; rw [List.length_map]; exact hm
    · show (⟨#[]⟩ : ByteArray).size ≤ 41; decide
  have hrT : (readR (from_ (stAt T) 0 T.size)).1.length ≤ 1000 := by
    unfold readR; split
    · show (from_ (stAt T) 0 T.size).length ≤ 1000; rw [from_len]; exact hT
    · simp
  have hful := undoR_len u v
  refine ⟨3000000 + (K1 + K2 + K3 + K4 + K5 + K6 + K7 + K8 + K9 + K10), ?_⟩
  generalize hk : 3000000 + (K1 + K2 + K3 + K4 + K5 + K6 + K7 + K8 + K9 + K10) = k
  unfold laws_FnRepairs.f
  rw [show laws_f6big.f l = some (decide ((l.length : Int) > 4096)) from rfl, decide_eq_false hb]; simp only [Option.bind_some, Bool.false_eq_true, if_false]
  rw [show spec_DrawApplyRepairs.f k l = some (s, t) from by unfold spec_DrawApplyRepairs.f; rw [e1 k (by omega)]; rfl]; simp only [Option.bind_some]
  rw [e5 k (by omega)]; simp only [Option.bind_some]
  rw [hSA k (by omega)]; simp only [Option.bind_some]
  rw [show spec_DrawUndoRepairs.f k l = some (u, v) from by
    unfold spec_DrawUndoRepairs.f; rw [e1 k (by omega)]; simp only [Option.bind_some]
    rw [hSA k (by omega)]; simp only [Option.bind_some]
    rw [huv]; split <;> rfl]; simp only [Option.bind_some]
  rw [e6 k (by omega)]; simp only [Option.bind_some]
  rw [e7 k (by omega)]; simp only [Option.bind_some]
  rw [show spec_DrawRepairsFor.f k l = some (c, C) from by unfold spec_DrawRepairsFor.f; rw [e2 k (by omega)]; rfl]; simp only [Option.bind_some]
  rw [e8 k (by omega)]; simp only [Option.bind_some]
  rw [e9 k (by omega)]; simp only [Option.bind_some]
  rw [show spec_DrawStatesText.f k l = some m from by
    show (spec_l22Draw.f k l 0 0).bind (fun t => some t.1) = some m
    rw [e3 k (by omega)]; rfl]; simp only [Option.bind_some]
  rw [ImplText_ m k (by omega), ← htxt]; simp only [Option.bind_some]
  rw [ImplRead_ txt (by omega) k (by omega)]; simp only [Option.bind_some]
  rw [e4 k (by omega)]; simp only [Option.bind_some]
  rw [ImplRead_ T (by omega) k (by omega)]; simp only [Option.bind_some]
  rw [SpecRead_ T (by omega) k (by omega)]; simp only [Option.bind_some, if_true]
  rw [f6ints_ (applyR s t).1 (by omega) k (by omega)]; simp only [Option.bind_some, if_true]
  rw [f6ints_ (undoR u v).1 (by omega) k (by omega)]; simp only [Option.bind_some, if_true]
  rw [SpecText_ m (by omega) k (by omega), ← htxt]; simp only [Option.bind_some, if_true, bne_self_eq_false, Bool.false_eq_true, if_false]
  rw [f6ints_ (readR (from_ (stAt T) 0 T.size)).1 (by omega) k (by omega)]; simp only [Option.bind_some, if_true]
  rw [ImplOkT_ s]; simp only [Option.bind_some]
  rw [show spec_ValidStates.f k s = some (okT s) from by unfold spec_ValidStates.f; rw [SpecOkT_ s (by omega) k (by omega)]; rfl]; simp only [Option.bind_some, bne_self_eq_false]
  obtain ⟨k, rfl⟩ : ∃ m, k = m + 1 := ⟨k - 1, by omega⟩
  obtain ⟨k, rfl⟩ : ∃ m, k = m + 1 := ⟨k - 1, by omega⟩
  have j1 : laws_FnRepairs.j1 (k + 1) s t (applyR s t).1 (applyR s t).2 c (repairsR c C).1 (repairsR c C).2 (repairsR c C).1 false = some true := by
    simp only [laws_FnRepairs.j1, Bool.false_eq_true, if_false]
    exact e10 k (by omega)
  simp only [laws_FnRepairs.j0, Bool.false_eq_true, if_false]
  by_cases z : txt.toList = ([] : List UInt8)
  · rw [if_pos z]; exact j1
  · rw [if_neg z]
    have ok : okT m = true := by
      by_cases o : okT m = true
      · exact o
      · exfalso; apply z; rw [htxt, if_neg o]; exact empty_toList
    rw [if_pos ok] at htxt
    have hr := read_back m ok
    rw [← htxt] at hr
    rw [hr]
    simp only [if_true]
    rw [f6ints_ m (by omega) (k + 1) (by omega)]; simp only [Option.bind_some, Bool.not_true]
    exact j1

end Go.Proofs.Ytfajacoagaamlaa.Pure
