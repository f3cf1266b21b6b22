/- For all lists of items the program's ValidStock answers as the reference's does, and leaves the list as it is. No condition. -/
import Derived.Test.YtmgljagkmaoopaaDoorQFnExactValidStockx4
import Derived.Test.YtmgljagkmaoopaaDoorBase
namespace Go.Proofs.YtmgljagkmaoopaaDoor.Pure
open Go Go.RowKit Go.Proofs.YtmgljagkmaoopaaDoor.QFnExactValidStock Go.Proofs.YtmgljagkmaoopaaDoorW.PrintWords Go.Proofs.YtmgljagkmaoopaaDoorW.PrintLast Go.Proofs.YtmgljagkmaoopaaDoorW.PrintMore Go.Proofs.YtmgljagkmaoopaaDoor.Base
set_option linter.unusedVariables false
set_option linter.unusedSimpArgs false

/-- From some number of rounds on the answer is r. -/
def Ev {α : Type} (g : Nat → Option α) (r : α) : Prop := ∃ K, ∀ k, K ≤ k → g k = some r
theorem Ev.step {α : Type} {g h : Nat → Option α} {r : α} (e : ∀ k, g (k + 1) = h k) (hr : Ev h r) : Ev g r := by
  obtain ⟨K, hK⟩ := hr
  refine ⟨K + 1, fun k hk => ?_⟩
  obtain ⟨k, rfl⟩ : ∃ m, k = m + 1 := ⟨k - 1, by omega⟩
  rw [e]; exact hK k (by omega)
theorem Ev.now {α : Type} {g : Nat → Option α} {r : α} (e : ∀ k, g (k + 1) = some r) : Ev g r := Ev.step (h := fun _ => some r) e ⟨0, fun _ _ => rfl⟩
theorem Ev.bind {α β : Type} {c : Nat → Option α} {f : Nat → α → Option β} {t : α} {r : β} (hc : Ev c t) (hf : Ev (fun k => f k t) r) : Ev (fun k => (c k).bind (f k)) r := by
  obtain ⟨K, hK⟩ := hc
  obtain ⟨L, hL⟩ := hf
  exact ⟨K + L, fun k hk => by show (c k).bind (f k) = some r; rw [hK k (by omega)]; exact hL k (by omega)⟩
theorem Ev.eq {α : Type} {g h : Nat → Option α} {r : α} (e : ∀ k, g k = h k) (hr : Ev h r) : Ev g r := by
  obtain ⟨K, hK⟩ := hr
  exact ⟨K, fun k hk => by rw [e]; exact hK k hk⟩

theorem dw_nil (p : UInt8 → Bool) : ∀ l : List UInt8, l.dropWhile p = [] ↔ l.all p = true
  | [] => by simp
  | a :: l => by
    by_cases h : p a = true
    · rw [List.dropWhile_cons_of_pos h, dw_nil p l]; simp [h]
    · rw [List.dropWhile_cons_of_neg h]; simp [h]
theorem dw_all (p : UInt8 → Bool) : ∀ l : List UInt8, (l.dropWhile p).all p = true → l.all p = true
  | [], _ => rfl
  | a :: l, h => by
    by_cases q : p a = true
    · rw [List.dropWhile_cons_of_pos q] at h
      have := dw_all p l h
      simp only [List.all_cons, q, this, Bool.and_self]
    · rw [List.dropWhile_cons_of_neg q] at h; exact h
/-- Nothing is left of a text that is trimmed just if all its bytes are those of the set. -/
theorem trim_nil (l cs : List UInt8) : Lib.trimS l cs = [] ↔ l.all (cs.contains ·) = true := by
  unfold Lib.trimS Lib.trimLeftS
  rw [dw_nil]
  unfold Lib.trimRightS
  rw [List.all_reverse]
  constructor
  · intro h
    have := dw_all _ _ h
    rwa [List.all_reverse] at this
  · intro h
    rw [← List.all_reverse] at h
    rw [(dw_nil _ _).2 h]; rfl

theorem toList_bytes (s : ByteArray) : s.toList = s.data.toList := Lib.toList_data s
theorem bt_getElem (s : ByteArray) (i : Nat) (h : i < s.size) : bt s (i : Int) = ((s.data.toList[i]'(by simpa using h)).toNat : Int) := by
  rw [← bt_at s (i : Int) (by simpa using h)]
  congr 1
/-- A fact on all bytes of a text, by places and by the list. -/
theorem all_bytes (s : ByteArray) (p : Int → Bool) : (s.data.toList.all fun b => p (b.toNat : Int)) = true ↔ ∀ i : Int, 0 ≤ i → i < s.size → p (bt s i) = true := by
  rw [List.all_eq_true]
  constructor
  · intro h i h0 h1
    obtain ⟨n, rfl⟩ : ∃ n : Nat, i = (n : Int) := ⟨i.toNat, by omega⟩
    rw [bt_getElem s n (by omega)]
    exact h _ (List.getElem_mem _)
  · intro h b hb
    obtain ⟨n, hn, rfl⟩ := List.getElem_of_mem hb
    have hn2 : n < s.size := by simpa using hn
    have := h (n : Int) (by omega) (by omega)
    rwa [bt_getElem s n hn2] at this

/-- A byte of a name. -/
def nmB (b : Int) : Bool := decide (97 ≤ b ∧ b ≤ 122) || (decide (48 ≤ b ∧ b ≤ 57) || decide (b = 45))
def nmAll (s : ByteArray) : Bool := s.data.toList.all fun b => nmB (b.toNat : Int)
def nmOk (s : ByteArray) : Bool := decide (1 ≤ s.size ∧ s.size ≤ 12) && (decide (97 ≤ bt s 0 ∧ bt s 0 ≤ 122) && nmAll s)
def nmSet : ByteArray := ⟨#[97, 98, 99, 100, 101, 102, 103, 104, 105, 106, 107, 108, 109, 110, 111, 112, 113, 114, 115, 116, 117, 118, 119, 120, 121, 122, 48, 49, 50, 51, 52, 53, 54, 55, 56, 57, 45]⟩
theorem nmSet_ (b : UInt8) : nmSet.data.toList.contains b = nmB (b.toNat : Int) := by
  have e : ∀ n : Fin 256, nmSet.data.toList.contains n.1.toUInt8 = nmB (n.1 : Int) := by decide +kernel
  have := e ⟨b.toNat, b.toNat_lt⟩
  simpa using this
theorem Small_ (b : Int) : spec_l01Small.f b = some (decide (97 ≤ b ∧ b ≤ 122)) := by
  unfold spec_l01Small.f
  by_cases h : b ≥ 97
  · rw [if_pos h]; congr 1; simp [show 97 ≤ b from h]
  · rw [if_neg h]; congr 1; simp [show ¬ 97 ≤ b from h]
theorem Digit_ (b : Int) : spec_l01Digit.f b = some (decide (48 ≤ b ∧ b ≤ 57)) := by
  unfold spec_l01Digit.f
  by_cases h : b ≥ 48
  · rw [if_pos h]; congr 1; simp [show 48 ≤ b from h]
  · rw [if_neg h]; congr 1; simp [show ¬ 48 ≤ b from h]
theorem specName_l (s : ByteArray) (hs : s.size ≤ 1000) : ∀ (d : Nat) (i : Int), (s.size : Int) - i = d → 0 ≤ i → ∀ r : Bool, (r = true ↔ ∀ j : Int, i ≤ j → j < s.size → nmB (bt s j) = true) → Ev (fun k => spec_IsName.l0 k s i) r := by
  intro d
  induction d with
  | zero =>
    intro i hd h0 r hr
    have : r = true := hr.2 (fun j _ _ => by omega)
    subst this
    refine Ev.now (fun k => ?_)
    simp only [spec_IsName.l0]; rw [if_neg (by omega)]
  | succ d ih =>
    intro i hd h0 r hr
    have e : ∀ k, spec_IsName.l0 (k + 1) s i = if nmB (bt s i) = true then spec_IsName.l0 k s (i + 1) else some false := by
      intro k
      simp only [spec_IsName.l0]
      rw [if_pos (by omega), if_pos h0, Small_, Digit_, w64 (n := i + 1) (by omega) (by omega)]; simp only [Option.bind_some]
      unfold nmB
      by_cases c1 : 97 ≤ bt s i ∧ bt s i ≤ 122
      · simp [c1]
      · by_cases c2 : 48 ≤ bt s i ∧ bt s i ≤ 57
        · simp [c1, c2]
        · by_cases c3 : bt s i = 45
          · simp [c3]
          · simp [c1, c2, c3]
    by_cases c : nmB (bt s i) = true
    · refine Ev.step (fun k => by rw [e, if_pos c]) (ih (i + 1) (by omega) (by omega) r ?_)
      rw [hr]
      constructor
      · exact fun h j j0 j1 => h j (by omega) j1
      · intro h j j0 j1
        by_cases z : j = i
        · subst z; exact c
        · exact h j (by omega) j1
    · have : r = false := by
        cases r with
        | false => rfl
        | true => exact absurd ((hr.1 rfl) i (Int.le_refl _) (by omega)) c
      subst this
      exact Ev.now (fun k => by rw [e, if_neg c])
theorem empty_size (s : ByteArray) : s.toList = ([] : List UInt8) ↔ s.size = 0 := by
  rw [toList_bytes]
  constructor
  · intro h; have : s.data.toList.length = 0 := by rw [h]; rfl
    simpa using this
  · intro h
    apply List.eq_nil_of_length_eq_zero
    simpa using h
theorem SpecName_ (s : ByteArray) : Ev (fun k => spec_IsName.f k s) (nmOk s) := by
  by_cases h0 : s.size = 0
  · have : nmOk s = false := by unfold nmOk; simp [h0]
    rw [this]
    refine Ev.now (fun k => ?_)
    unfold spec_IsName.f
    rw [if_pos ((empty_size s).2 h0)]; rfl
  have hne : ¬ s.toList = ([] : List UInt8) := fun h => h0 ((empty_size s).1 h)
  by_cases h1 : (s.size : Int) > 12
  · have : nmOk s = false := by unfold nmOk; simp; omega
    rw [this]
    refine Ev.now (fun k => ?_)
    unfold spec_IsName.f
    rw [if_neg hne, if_pos h1]; rfl
  have e : ∀ k, spec_IsName.f k s = spec_IsName.j0 k s (!(decide (97 ≤ bt s 0 ∧ bt s 0 ≤ 122))) := fun k => by
    unfold spec_IsName.f
    rw [if_neg hne, if_neg h1, if_pos (by omega), Small_]; rfl
  refine Ev.eq e ?_
  have hz : (1 ≤ s.size ∧ s.size ≤ 12) := by omega
  by_cases c : 97 ≤ bt s 0 ∧ bt s 0 ≤ 122
  · have hr : nmOk s = true ↔ ∀ j : Int, 0 ≤ j → j < s.size → nmB (bt s j) = true := by
      unfold nmOk
      rw [decide_eq_true hz, decide_eq_true c, Bool.true_and, Bool.true_and]
      exact all_bytes s nmB
    refine Ev.step (h := fun k => spec_IsName.l0 k s 0) (fun k => ?_) (specName_l s (by omega) s.size 0 (by omega) (by omega) _ hr)
    simp only [spec_IsName.j0]
    rw [decide_eq_true c]; simp
  · have : nmOk s = false := by unfold nmOk; simp [c]
    rw [this]
    refine Ev.now (fun k => ?_)
    simp only [spec_IsName.j0]
    rw [decide_eq_false c]; simp
theorem TrimName_ (s : ByteArray) (hs : s.size ≤ 1000) : ∃ t, strings_Trim.f s nmSet = some t ∧ (t.toList == ([] : List UInt8)) = nmAll s := by
  refine ⟨⟨(Lib.trimS s.data.toList nmSet.data.toList).toArray⟩, ?_, ?_⟩
  · unfold strings_Trim.f
    rw [if_pos ⟨by omega, by decide, by decide⟩]
  · rw [toList_bytes]
    show ((Lib.trimS s.data.toList nmSet.data.toList) == []) = _
    have h := trim_nil s.data.toList nmSet.data.toList
    have e : (s.data.toList.all fun b => nmSet.data.toList.contains b) = nmAll s := by
      unfold nmAll; congr 1; funext b; exact nmSet_ b
    rw [e] at h
    cases q : nmAll s with
    | true => rw [h.2 q]; rfl
    | false =>
      have : ¬ Lib.trimS s.data.toList nmSet.data.toList = [] := fun z => by rw [h.1 z] at q; cases q
      cases z : Lib.trimS s.data.toList nmSet.data.toList with
      | nil => exact absurd z this
      | cons a l => rfl
theorem ImplName_ (s : ByteArray) : impl_IsName.f s = some (nmOk s) := by
  unfold impl_IsName.f
  by_cases h0 : (s.size : Int) < 1
  · rw [if_pos h0]; congr 1; unfold nmOk; simp; omega
  rw [if_neg h0]
  by_cases h1 : (s.size : Int) > 12
  · rw [if_pos h1]; congr 1; unfold nmOk; simp; omega
  rw [if_neg h1, if_pos (by omega)]
  have hz : (1 ≤ s.size ∧ s.size ≤ 12) := by omega
  by_cases c1 : bt s 0 < 97
  · rw [if_pos c1]; congr 1; unfold nmOk; simp; omega
  rw [if_neg c1]
  by_cases c2 : bt s 0 > 122
  · rw [if_pos c2]; congr 1; unfold nmOk; simp; omega
  rw [if_neg c2]
  obtain ⟨t, ht, he⟩ := TrimName_ s (by omega)
  show ((strings_Trim.f s nmSet).bind fun t => some (t.toList == ([] : List UInt8))) = some (nmOk s)
  rw [ht]; simp only [Option.bind_some]
  rw [he]
  unfold nmOk
  rw [decide_eq_true hz, decide_eq_true (show 97 ≤ bt s 0 ∧ bt s 0 ≤ 122 by omega), Bool.true_and, Bool.true_and]

theorem gd_ext {α : Type} (z : α) (a l : List α) (h : a.length = l.length) (h2 : ∀ j : Int, 0 ≤ j → j < l.length → a.getD j.toNat z = l.getD j.toNat z) : a = l := by
  apply List.ext_getElem h
  intro n h1 h3
  have := h2 n (by omega) (by omega)
  rw [List.getD_eq_getElem?_getD, List.getD_eq_getElem?_getD, Int.toNat_natCast, List.getElem?_eq_getElem h1, List.getElem?_eq_getElem h3] at this
  exact this
theorem gd_same {α : Type} (z : α) (l : List α) (i : Int) (v : α) (h0 : 0 ≤ i) (h : i < l.length) : (l.set i.toNat v).getD i.toNat z = v := by
  simp [List.getD_eq_getElem?_getD, List.getElem?_set, show i.toNat < l.length by omega]
theorem gd_other {α : Type} (z : α) (l : List α) (i j : Int) (v : α) (h0 : 0 ≤ i) (h1 : 0 ≤ j) (h : i ≠ j) : (l.set i.toNat v).getD j.toNat z = l.getD j.toNat z := by
  simp [List.getD_eq_getElem?_getD, List.getElem?_set, show ¬ i.toNat = j.toNat by omega]
theorem gd_in {α : Type} (z : α) (l : List α) (i : Int) (h0 : 0 ≤ i) (h : i < l.length) : l.getD i.toNat z ∈ l := by
  rw [List.getD_eq_getElem?_getD, List.getElem?_eq_getElem (by omega)]
  exact List.getElem_mem _
theorem gd_map {α β : Type} (z : α) (y : β) (f : α → β) (l : List α) (i : Int) (h0 : 0 ≤ i) (h : i < l.length) : (l.map f).getD i.toNat y = f (l.getD i.toNat z) := by
  rw [List.getD_eq_getElem?_getD, List.getD_eq_getElem?_getD, List.getElem?_map, List.getElem?_eq_getElem (by omega)]
  rfl
theorem size64 {n : Nat} (h : n ≤ maxLen) : (n : Int) ≤ 9223372036854775807 := by
  have e : maxLen = 9223372036854775807 := by decide
  omega

abbrev LI := S33
abbrev II := S34
def okI (l : List LI) : Prop := ∀ x ∈ l, x.f0.size ≤ maxLen ∧ (Lit.int .i64 x.f1).wf = true ∧ (Lit.int .i64 x.f2).wf = true ∧ (Lit.int .i64 x.f3).wf = true
def cvI (x : LI) : II := ⟨x.f0, x.f1, x.f2, x.f3⟩
theorem szItem_ (x : LI) (h : x.f0.size ≤ maxLen) (m : Int) (h0 : 0 ≤ m) (h1 : m ≤ 1048576) : ∃ r, laws_szItem.f x.f0 x.f1 x.f2 x.f3 m = some r ∧ r ≤ 1048576 ∧ -1 ≤ r := by
  have := size64 h
  unfold laws_szItem.f
  rw [w64 (by omega) (by omega)]
  by_cases c : m - (x.f0.size : Int) < 0
  · rw [if_pos c]; exact ⟨_, rfl, by omega, by omega⟩
  · rw [if_neg c]; exact ⟨_, rfl, by omega, by omega⟩
theorem szItems_l (l : List LI) (ho : okI l) (hl : l.length ≤ 1048576) : ∀ (d : Nat) (i m : Int), (l.length : Int) - i = d → 0 ≤ i → 0 ≤ m → m ≤ 1048576 → ∃ r, r ≤ 1048576 ∧ ∀ k, d < k → laws_szItemS.l0 k l m i = some r := by
  intro d
  induction d with
  | zero =>
    intro i m hd h0 hm hm2
    refine ⟨m, hm2, fun k hk => ?_⟩
    obtain ⟨k, rfl⟩ : ∃ j, k = j + 1 := ⟨k - 1, by omega⟩
    simp only [laws_szItemS.l0]; rw [if_neg (by omega)]
  | succ d ih =>
    intro i m hd h0 hm hm2
    obtain ⟨q, hq, hq1, hq2⟩ := szItem_ (rd_T33 l i) (ho _ (gd_in _ _ _ h0 (by omega))).1 m hm hm2
    by_cases c : q < 0
    · refine ⟨-1, by omega, fun k hk => ?_⟩
      obtain ⟨k, rfl⟩ : ∃ j, k = j + 1 := ⟨k - 1, by omega⟩
      simp only [laws_szItemS.l0]; rw [if_pos (by omega), if_pos h0, hq]; simp only [Option.bind_some]; rw [if_pos c]
    · obtain ⟨r, hr, hk'⟩ := ih (i + 1) q (by omega) (by omega) (by omega) (by omega)
      refine ⟨r, hr, fun k hk => ?_⟩
      obtain ⟨k, rfl⟩ : ∃ j, k = j + 1 := ⟨k - 1, by omega⟩
      simp only [laws_szItemS.l0]; rw [if_pos (by omega), if_pos h0, hq]; simp only [Option.bind_some]; rw [if_neg c, w64 (by omega) (by omega)]
      exact hk' k (by omega)
/-- What is left: below 0, or the list is short. -/
theorem szItems_ (l : List LI) (ho : okI l) (hm : l.length ≤ maxLen) (m : Int) (h0 : 0 ≤ m) (h1 : m ≤ 1048576) : ∃ r, r ≤ 1048576 ∧ (0 ≤ r → l.length ≤ 1048576) ∧ ∀ k, 1048577 ≤ k → laws_szItemS.f k l m = some r := by
  have := size64 hm
  unfold laws_szItemS.f
  rw [w64 (by omega) (by omega)]
  by_cases c : m - (l.length : Int) < 0
  · refine ⟨-1, by omega, fun h => by omega, fun k hk => ?_⟩; rw [if_pos c]
  · obtain ⟨r, hr, hk'⟩ := szItems_l l ho (by omega) l.length 0 (m - l.length) (by omega) (by omega) (by omega) (by omega)
    refine ⟨r, hr, fun _ => by omega, fun k hk => ?_⟩; rw [if_neg c]; exact hk' k (by omega)
theorem toItems_l (l : List LI) (hl : l.length ≤ 1048576) : ∀ (d k : Nat) (i : Int) (a : List II), (l.length : Int) - i = d → 0 ≤ i → a.length = l.length → (∀ j : Int, 0 ≤ j → j < i → a.getD j.toNat z34 = cvI (l.getD j.toNat z33)) → d < k → laws_toItemS.l0 k l a i = some (l.map cvI) := by
  intro d
  induction d with
  | zero =>
    intro k i a hd h0 ha hr hk
    obtain ⟨k, rfl⟩ : ∃ m, k = m + 1 := ⟨k - 1, by omega⟩
    simp only [laws_toItemS.l0]; rw [if_neg (by omega)]
    congr 1
    refine gd_ext z34 a _ (by simpa using ha) (fun j h1 h2 => ?_)
    rw [hr j h1 (by simp at h2; omega), gd_map z33 _ _ _ _ h1 (by simpa using h2)]
  | succ d ih =>
    intro k i a hd h0 ha hr hk
    obtain ⟨k, rfl⟩ : ∃ m, k = m + 1 := ⟨k - 1, by omega⟩
    simp only [laws_toItemS.l0]
    rw [if_pos (by omega), if_pos h0]; simp only [laws_toItem.f, Option.bind_some]
    rw [if_pos (by omega), w64 (by omega) (by omega)]
    refine ih k (i + 1) _ (by omega) (by omega) (by simpa using ha) (fun j h1 h2 => ?_) (by omega)
    by_cases e : j = i
    · subst e; rw [gd_same _ _ _ _ h0 (by omega)]; rfl
    · rw [gd_other _ _ _ _ _ h0 h1 (by omega)]; exact hr j h1 (by omega)
theorem toItems_ (l : List LI) (hl : l.length ≤ 1048576) (k : Nat) (hk : 1048577 ≤ k) : laws_toItemS.f k l = some (l.map cvI) := by
  unfold laws_toItemS.f
  rw [if_pos (by omega), if_pos (by simp; omega)]
  exact toItems_l l hl l.length k 0 _ (by omega) (by omega) (by simp) (fun j h1 h2 => by omega) (by omega)

theorem In_ (a b c : Int) : spec_l00In.f a b c = some (decide (b ≤ a ∧ a ≤ c)) := by
  unfold spec_l00In.f
  by_cases h : a ≥ b
  · rw [if_pos h]; simp [show b ≤ a from h]
  · rw [if_neg h]; simp [show ¬ b ≤ a from h]

theorem within_ (a b c : Int) : impl_within.f a b c = some (decide (b ≤ a ∧ a ≤ c)) := by
  unfold impl_within.f
  by_cases h : a ≥ b
  · rw [if_pos h]; simp [show b ≤ a from h]
  · rw [if_neg h]; simp [show ¬ b ≤ a from h]

/-- From place i on the items are valid, and their names rise. -/
def stB (l : List II) : Nat → Int → Bool
  | 0, _ => decide ((l.length : Int) ≤ 20)
  | d + 1, i => if nmOk (rd_T34 l i).f0 = true ∧ (0 ≤ (rd_T34 l i).f1 ∧ (rd_T34 l i).f1 ≤ 100000) ∧ (0 ≤ (rd_T34 l i).f2 ∧ (rd_T34 l i).f2 ≤ 100000) ∧ (0 ≤ (rd_T34 l i).f3 ∧ (rd_T34 l i).f3 ≤ 1000000) ∧ (i > 0 → Op.bytesLess (((rd_T34 l (i - 1)).f0).toList) (((rd_T34 l i).f0).toList) = true) then stB l d (i + 1) else false
theorem stB_says (l : List II) : ∀ (d : Nat) (i : Int), stB l d i = true → l.length ≤ 20 ∧ ∀ j : Int, i ≤ j → j < i + d → (0 ≤ (rd_T34 l j).f1 ∧ (rd_T34 l j).f1 ≤ 100000) ∧ (0 ≤ (rd_T34 l j).f2 ∧ (rd_T34 l j).f2 ≤ 100000) ∧ (0 ≤ (rd_T34 l j).f3 ∧ (rd_T34 l j).f3 ≤ 1000000)
  | 0, i, h => by
    unfold stB at h
    have := of_decide_eq_true h
    exact ⟨by omega, fun j _ _ => by omega⟩
  | d + 1, i, h => by
    unfold stB at h
    split at h
    · rename_i c
      obtain ⟨h1, h2⟩ := stB_says l d (i + 1) h
      refine ⟨h1, fun j j0 j1 => ?_⟩
      by_cases e : j = i
      · subst e; exact ⟨c.2.1, c.2.2.1, c.2.2.2.1⟩
      · exact h2 j (by omega) (by omega)
    · cases h
theorem Have_ (n : Int) : spec_l23Have.f n = some (decide (0 ≤ n ∧ n ≤ 100000)) := by
  unfold spec_l23Have.f; rw [In_]; rfl
theorem Cents_ (n : Int) : spec_l23Cents.f n = some (decide (0 ≤ n ∧ n ≤ 1000000)) := by
  unfold spec_l23Cents.f; rw [In_]; rfl
theorem isHave_ (n : Int) : impl_isHave.f n = some (decide (0 ≤ n ∧ n ≤ 100000)) := by
  unfold impl_isHave.f; rw [within_]; rfl
theorem isCents_ (n : Int) : impl_isCents.f n = some (decide (0 ≤ n ∧ n ≤ 1000000)) := by
  unfold impl_isCents.f; rw [within_]; rfl
theorem specStock_l (l : List II) (hl : l.length ≤ 1048576) : ∀ (d : Nat) (i : Int), (l.length : Int) - i = d → 0 ≤ i → Ev (fun k => spec_l23Ok.l0 k l i) (stB l d i) := by
  intro d
  induction d with
  | zero =>
    intro i hd h0
    refine Ev.now (fun k => ?_)
    simp only [spec_l23Ok.l0]; rw [if_neg (by omega)]; rfl
  | succ d ih =>
    intro i hd h0
    refine Ev.step (h := fun k => (spec_IsName.f k (rd_T34 l i).f0).bind fun t => if t = true then (if (0 ≤ (rd_T34 l i).f1 ∧ (rd_T34 l i).f1 ≤ 100000) ∧ (0 ≤ (rd_T34 l i).f2 ∧ (rd_T34 l i).f2 ≤ 100000) ∧ (0 ≤ (rd_T34 l i).f3 ∧ (rd_T34 l i).f3 ≤ 1000000) ∧ (i > 0 → Op.bytesLess (((rd_T34 l (i - 1)).f0).toList) (((rd_T34 l i).f0).toList) = true) then spec_l23Ok.l0 k l (i + 1) else some false) else some false) (fun k => ?_) (Ev.bind (SpecName_ _) ?_)
    · simp only [spec_l23Ok.l0]
      rw [if_pos (by omega), if_pos h0, Have_, Have_, Cents_, w64 (n := i + 1) (by omega) (by omega), w64 (n := i - 1) (by omega) (by omega)]
      congr 1; funext t
      cases t with
      | false => rfl
      | true =>
        simp only [if_true, Option.bind_some, decide_eq_true_eq]
        by_cases c1 : 0 ≤ (rd_T34 l i).f1 ∧ (rd_T34 l i).f1 ≤ 100000
        · rw [if_pos c1]
          by_cases c2 : 0 ≤ (rd_T34 l i).f2 ∧ (rd_T34 l i).f2 ≤ 100000
          · rw [if_pos c2]
            by_cases c3 : 0 ≤ (rd_T34 l i).f3 ∧ (rd_T34 l i).f3 ≤ 1000000
            · rw [if_pos c3]
              by_cases c4 : i > 0
              · rw [if_pos c4, if_pos (by omega), if_pos (by omega)]
                by_cases c5 : Op.bytesLess (((rd_T34 l (i - 1)).f0).toList) (((rd_T34 l i).f0).toList) = true
                · rw [if_pos c5, if_pos ⟨c1, c2, c3, fun _ => c5⟩]
                · rw [if_neg c5, if_neg (fun h => c5 (h.2.2.2 c4))]
              · rw [if_neg c4, if_pos ⟨c1, c2, c3, fun h => absurd h c4⟩]
            · rw [if_neg c3, if_neg (fun h => c3 h.2.2.1)]
          · rw [if_neg c2, if_neg (fun h => c2 h.2.1)]
        · rw [if_neg c1, if_neg (fun h => c1 h.1)]
    · unfold stB
      by_cases c : nmOk (rd_T34 l i).f0 = true
      · by_cases q : (0 ≤ (rd_T34 l i).f1 ∧ (rd_T34 l i).f1 ≤ 100000) ∧ (0 ≤ (rd_T34 l i).f2 ∧ (rd_T34 l i).f2 ≤ 100000) ∧ (0 ≤ (rd_T34 l i).f3 ∧ (rd_T34 l i).f3 ≤ 1000000) ∧ (i > 0 → Op.bytesLess (((rd_T34 l (i - 1)).f0).toList) (((rd_T34 l i).f0).toList) = true)
        · rw [if_pos ⟨c, q⟩]
          exact Ev.eq (fun k => by rw [if_pos c, if_pos q]) (ih (i + 1) (by omega) (by omega))
        · rw [if_neg (fun h => q h.2)]
          exact ⟨0, fun k _ => by show (if nmOk _ = true then _ else _) = _; rw [if_pos c, if_neg q]⟩
      · rw [if_neg (fun h => c h.1)]
        exact ⟨0, fun k _ => if_neg c⟩
theorem SpecStock_ (l : List II) (hl : l.length ≤ 1048576) : Ev (fun k => spec_l23Ok.f k l) (stB l l.length 0) := specStock_l l hl l.length 0 (by omega) (by omega)
theorem implStock_l (l : List II) (hl : l.length ≤ 1048576) : ∀ (d : Nat) (i : Int), (l.length : Int) - i = d → 0 ≤ i → Ev (fun k => impl_ValidStock.l0 k l l (l.length : Int) i) (stB l d i) := by
  intro d
  induction d with
  | zero =>
    intro i hd h0
    refine Ev.now (fun k => ?_)
    simp only [impl_ValidStock.l0]; rw [if_neg (by omega)]; rfl
  | succ d ih =>
    intro i hd h0
    have e : ∀ k, impl_ValidStock.l0 (k + 1) l l (l.length : Int) i = if nmOk (rd_T34 l i).f0 = true ∧ (0 ≤ (rd_T34 l i).f1 ∧ (rd_T34 l i).f1 ≤ 100000) ∧ (0 ≤ (rd_T34 l i).f2 ∧ (rd_T34 l i).f2 ≤ 100000) ∧ (0 ≤ (rd_T34 l i).f3 ∧ (rd_T34 l i).f3 ≤ 1000000) ∧ (i > 0 → Op.bytesLess (((rd_T34 l (i - 1)).f0).toList) (((rd_T34 l i).f0).toList) = true) then impl_ValidStock.l0 k l l (l.length : Int) (i + 1) else some false := by
      intro k
      simp only [impl_ValidStock.l0]
      rw [if_pos (by omega), if_pos h0, if_pos (by omega), ImplName_, isHave_, isHave_, isCents_, w64 (n := i + 1) (by omega) (by omega), w64 (n := i - 1) (by omega) (by omega)]
      simp only [Option.bind_some, decide_eq_true_eq]
      by_cases c : nmOk (rd_T34 l i).f0 = true
      · rw [if_pos c]
        by_cases c1 : 0 ≤ (rd_T34 l i).f1 ∧ (rd_T34 l i).f1 ≤ 100000
        · rw [if_pos c1]
          by_cases c2 : 0 ≤ (rd_T34 l i).f2 ∧ (rd_T34 l i).f2 ≤ 100000
          · rw [if_pos c2]
            by_cases c3 : 0 ≤ (rd_T34 l i).f3 ∧ (rd_T34 l i).f3 ≤ 1000000
            · rw [if_pos c3]
              by_cases c4 : i > 0
              · rw [if_pos c4, if_pos (by omega), if_pos (by omega)]
                by_cases c5 : Op.bytesLess (((rd_T34 l (i - 1)).f0).toList) (((rd_T34 l i).f0).toList) = true
                · rw [if_pos c5, if_pos ⟨c, c1, c2, c3, fun _ => c5⟩]
                · rw [if_neg c5, if_neg (fun h => c5 (h.2.2.2.2 c4))]
              · rw [if_neg c4, if_pos ⟨c, c1, c2, c3, fun h => absurd h c4⟩]
            · rw [if_neg c3, if_neg (fun h => c3 h.2.2.2.1)]
          · rw [if_neg c2, if_neg (fun h => c2 h.2.2.1)]
        · rw [if_neg c1, if_neg (fun h => c1 h.2.1)]
      · rw [if_neg c, if_neg (fun h => c h.1)]
    unfold stB
    split
    · rename_i c
      exact Ev.step (fun k => by rw [e, if_pos c]) (ih (i + 1) (by omega) (by omega))
    · rename_i c
      exact Ev.now (fun k => by rw [e, if_neg c])
theorem ImplStock_ (l : List II) (hl : l.length ≤ 1048576) : Ev (fun k => impl_ValidStock.f k l) (stB l l.length 0) := implStock_l l hl l.length 0 (by omega) (by omega)

theorem eqItems_l (l : List II) (hl : l.length ≤ 1048576) : ∀ (d k : Nat) (i : Int), (l.length : Int) - i = d → 0 ≤ i → d < k → laws_eqItemS.l0 k l l i = some true := by
  intro d
  induction d with
  | zero =>
    intro k i hd h0 hk
    obtain ⟨k, rfl⟩ : ∃ m, k = m + 1 := ⟨k - 1, by omega⟩
    simp only [laws_eqItemS.l0]; rw [if_neg (by omega)]
  | succ d ih =>
    intro k i hd h0 hk
    obtain ⟨k, rfl⟩ : ∃ m, k = m + 1 := ⟨k - 1, by omega⟩
    simp only [laws_eqItemS.l0]
    rw [if_pos (by omega), if_pos h0, if_pos (by omega)]; simp only [laws_eqItem.f, if_true, Option.bind_some]
    rw [w64 (by omega) (by omega)]
    exact ih k (i + 1) (by omega) (by omega) (by omega)
theorem eqItems_ (l : List II) (hl : l.length ≤ 1048576) (k : Nat) (hk : 1048577 ≤ k) : laws_eqItemS.f k l l = some true := by
  unfold laws_eqItemS.f
  rw [if_pos rfl]; exact eqItems_l l hl l.length k 0 (by omega) (by omega) (by omega)

theorem FnExactValidStock : laws_FnExactValidStock.Pure := by
  intro a ha _ hoa
  obtain ⟨r, hr, hra, hA⟩ := szItems_ a hoa ha 1048576 (by omega) (by omega)
  by_cases c : r < 0
  · refine ⟨1048577, ?_⟩
    unfold laws_FnExactValidStock.f
    rw [hA _ (by omega)]; simp only [Option.bind_some]; rw [if_pos c]
  have la := hra (by omega)
  have lb : (a.map cvI).length ≤ 1048576 := by simpa using la
  obtain ⟨K1, e1⟩ := SpecStock_ (a.map cvI) lb
  obtain ⟨K2, e2⟩ := ImplStock_ (a.map cvI) lb
  dsimp only at e1 e2
  refine ⟨1048580 + (K1 + K2), ?_⟩
  generalize hk : 1048580 + (K1 + K2) = k
  unfold laws_FnExactValidStock.f
  rw [hA _ (by omega)]; simp only [Option.bind_some]
  rw [if_neg c, toItems_ a la _ (by omega)]; simp only [Option.bind_some]
  rw [show spec_ValidStock.f k (a.map cvI) = some (stB (a.map cvI) (a.map cvI).length 0) from by unfold spec_ValidStock.f; rw [e1 _ (by omega)]; rfl]; simp only [Option.bind_some]
  rw [e2 _ (by omega)]; simp only [Option.bind_some]
  rw [if_neg (by simp)]
  rw [eqItems_ _ lb _ (by omega)]; simp

end Go.Proofs.YtmgljagkmaoopaaDoor.Pure
