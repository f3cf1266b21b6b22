/- For all lists of items the program's SameStock answers as the reference's does, and leaves both as they are. No condition. -/
import Derived.Test.YtmgljagkmaoopaaQFnExactSameStockx3
import Derived.Test.YtmgljagkmaoopaaBase
namespace Go.Proofs.Ytmgljagkmaoopaa.Pure
open Go Go.RowKit Go.Proofs.Ytmgljagkmaoopaa.QFnExactSameStock Go.Proofs.YtmgljagkmaoopaaW.PrintWords Go.Proofs.YtmgljagkmaoopaaW.PrintLast Go.Proofs.YtmgljagkmaoopaaW.PrintMore Go.Proofs.Ytmgljagkmaoopaa.Base
set_option linter.unusedVariables false
set_option linter.unusedSimpArgs false

theorem gd_ext {α : Type} (z : α) (a l : List α) (h : a.length = l.length) (h2 : ∀ j : Int, 0 ≤ j → j < l.length → a.getD j.toNat z = l.getD j.toNat z) : a = l := by
  apply List.ext_getElem h
  intro n h1 h3
  have := h2 n (by omega) (by omega)
  rw [List.getD_eq_getElem?_getD, List.getD_eq_getElem?_getD, Int.toNat_natCast, List.getElem?_eq_getElem h1, List.getElem?_eq_getElem h3] at this
  exact this
theorem gd_same {α : Type} (z : α) (l : List α) (i : Int) (v : α) (h0 : 0 ≤ i) (h : i < l.length) : (l.set i.toNat v).getD i.toNat z = v := by
  simp [List.getD_eq_getElem?_getD, List.getElem?_set, show i.toNat < l.length by omega]
theorem gd_other {α : Type} (z : α) (l : List α) (i j : Int) (v : α) (h0 : 0 ≤ i) (h1 : 0 ≤ j) (h : i ≠ j) : (l.set i.toNat v).getD j.toNat z = l.getD j.toNat z := by
  simp [List.getD_eq_getElem?_getD, List.getElem?_set, show ¬ i.toNat = j.toNat by omega]
theorem gd_in {α : Type} (z : α) (l : List α) (i : Int) (h0 : 0 ≤ i) (h : i < l.length) : l.getD i.toNat z ∈ l := by
  rw [List.getD_eq_getElem?_getD, List.getElem?_eq_getElem (by omega)]
  exact List.getElem_mem _
theorem gd_map {α β : Type} (z : α) (y : β) (f : α → β) (l : List α) (i : Int) (h0 : 0 ≤ i) (h : i < l.length) : (l.map f).getD i.toNat y = f (l.getD i.toNat z) := by
  rw [List.getD_eq_getElem?_getD, List.getD_eq_getElem?_getD, List.getElem?_map, List.getElem?_eq_getElem (by omega)]
  rfl
theorem size64 {n : Nat} (h : n ≤ maxLen) : (n : Int) ≤ 9223372036854775807 := by
  have e : maxLen = 9223372036854775807 := by decide
  omega

abbrev LI := S30
abbrev II := S31
def okI (l : List LI) : Prop := ∀ x ∈ l, x.f0.size ≤ maxLen ∧ (Lit.int .i64 x.f1).wf = true ∧ (Lit.int .i64 x.f2).wf = true ∧ (Lit.int .i64 x.f3).wf = true
def cvI (x : LI) : II := ⟨x.f0, x.f1, x.f2, x.f3⟩
theorem szItem_ (x : LI) (h : x.f0.size ≤ maxLen) (m : Int) (h0 : 0 ≤ m) (h1 : m ≤ 1048576) : ∃ r, laws_szItem.f x.f0 x.f1 x.f2 x.f3 m = some r ∧ r ≤ 1048576 ∧ -1 ≤ r := by
  have := size64 h
  unfold laws_szItem.f
  rw [w64 (by omega) (by omega)]
  by_cases c : m - (x.f0.size : Int) < 0
  · rw [if_pos c]; exact ⟨_, rfl, by omega, by omega⟩
  · rw [if_neg c]; exact ⟨_, rfl, by omega, by omega⟩
theorem szItems_l (l : List LI) (ho : okI l) (hl : l.length ≤ 1048576) : ∀ (d : Nat) (i m : Int), (l.length : Int) - i = d → 0 ≤ i → 0 ≤ m → m ≤ 1048576 → ∃ r, r ≤ 1048576 ∧ ∀ k, d < k → laws_szItemS.l0 k l m i = some r := by
  intro d
  induction d with
  | zero =>
    intro i m hd h0 hm hm2
    refine ⟨m, hm2, fun k hk => ?_⟩
    obtain ⟨k, rfl⟩ : ∃ j, k = j + 1 := ⟨k - 1, by omega⟩
    simp only [laws_szItemS.l0]; rw [if_neg (by omega)]
  | succ d ih =>
    intro i m hd h0 hm hm2
    obtain ⟨q, hq, hq1, hq2⟩ := szItem_ (rd_T30 l i) (ho _ (gd_in _ _ _ h0 (by omega))).1 m hm hm2
    by_cases c : q < 0
    · refine ⟨-1, by omega, fun k hk => ?_⟩
      obtain ⟨k, rfl⟩ : ∃ j, k = j + 1 := ⟨k - 1, by omega⟩
      simp only [laws_szItemS.l0]; rw [if_pos (by omega), if_pos h0, hq]; simp only [Option.bind_some]; rw [if_pos c]
    · obtain ⟨r, hr, hk'⟩ := ih (i + 1) q (by omega) (by omega) (by omega) (by omega)
      refine ⟨r, hr, fun k hk => ?_⟩
      obtain ⟨k, rfl⟩ : ∃ j, k = j + 1 := ⟨k - 1, by omega⟩
      simp only [laws_szItemS.l0]; rw [if_pos (by omega), if_pos h0, hq]; simp only [Option.bind_some]; rw [if_neg c, w64 (by omega) (by omega)]
      exact hk' k (by omega)
/-- What is left: below 0, or the list is short. -/
theorem szItems_ (l : List LI) (ho : okI l) (hm : l.length ≤ maxLen) (m : Int) (h0 : 0 ≤ m) (h1 : m ≤ 1048576) : ∃ r, r ≤ 1048576 ∧ (0 ≤ r → l.length ≤ 1048576) ∧ ∀ k, 1048577 ≤ k → laws_szItemS.f k l m = some r := by
  have := size64 hm
  unfold laws_szItemS.f
  rw [w64 (by omega) (by omega)]
  by_cases c : m - (l.length : Int) < 0
  · refine ⟨-1, by omega, fun h => by omega, fun k hk => ?_⟩; rw [if_pos c]
  · obtain ⟨r, hr, hk'⟩ := szItems_l l ho (by omega) l.length 0 (m - l.length) (by omega) (by omega) (by omega) (by omega)
    refine ⟨r, hr, fun _ => by omega, fun k hk => ?_⟩; rw [if_neg c]; exact hk' k (by omega)
theorem toItems_l (l : List LI) (hl : l.length ≤ 1048576) : ∀ (d k : Nat) (i : Int) (a : List II), (l.length : Int) - i = d → 0 ≤ i → a.length = l.length → (∀ j : Int, 0 ≤ j → j < i → a.getD j.toNat z31 = cvI (l.getD j.toNat z30)) → d < k → laws_toItemS.l0 k l a i = some (l.map cvI) := by
  intro d
  induction d with
  | zero =>
    intro k i a hd h0 ha hr hk
    obtain ⟨k, rfl⟩ : ∃ m, k = m + 1 := ⟨k - 1, by omega⟩
    simp only [laws_toItemS.l0]; rw [if_neg (by omega)]
    congr 1
    refine gd_ext z31 a _ (by simpa using ha) (fun j h1 h2 => ?_)
    rw [hr j h1 (by simp at h2; omega), gd_map z30 _ _ _ _ h1 (by simpa using h2)]
  | succ d ih =>
    intro k i a hd h0 ha hr hk
    obtain ⟨k, rfl⟩ : ∃ m, k = m + 1 := ⟨k - 1, by omega⟩
    simp only [laws_toItemS.l0]
    rw [if_pos (by omega), if_pos h0]; simp only [laws_toItem.f, Option.bind_some]
    rw [if_pos (by omega), w64 (by omega) (by omega)]
    refine ih k (i + 1) _ (by omega) (by omega) (by simpa using ha) (fun j h1 h2 => ?_) (by omega)
    by_cases e : j = i
    · subst e; rw [gd_same _ _ _ _ h0 (by omega)]; rfl
    · rw [gd_other _ _ _ _ _ h0 h1 (by omega)]; exact hr j h1 (by omega)
theorem toItems_ (l : List LI) (hl : l.length ≤ 1048576) (k : Nat) (hk : 1048577 ≤ k) : laws_toItemS.f k l = some (l.map cvI) := by
  unfold laws_toItemS.f
  rw [if_pos (by omega), if_pos (by simp; omega)]
  exact toItems_l l hl l.length k 0 _ (by omega) (by omega) (by simp) (fun j h1 h2 => by omega) (by omega)

theorem eqItems_l (l : List II) (hl : l.length ≤ 1048576) : ∀ (d k : Nat) (i : Int), (l.length : Int) - i = d → 0 ≤ i → d < k → laws_eqItemS.l0 k l l i = some true := by
  intro d
  induction d with
  | zero =>
    intro k i hd h0 hk
    obtain ⟨k, rfl⟩ : ∃ m, k = m + 1 := ⟨k - 1, by omega⟩
    simp only [laws_eqItemS.l0]; rw [if_neg (by omega)]
  | succ d ih =>
    intro k i hd h0 hk
    obtain ⟨k, rfl⟩ : ∃ m, k = m + 1 := ⟨k - 1, by omega⟩
    simp only [laws_eqItemS.l0]
    rw [if_pos (by omega), if_pos h0, if_pos (by omega)]; simp only [laws_eqItem.f, if_true, Option.bind_some]
    rw [w64 (by omega) (by omega)]
    exact ih k (i + 1) (by omega) (by omega) (by omega)
theorem eqItems_ (l : List II) (hl : l.length ≤ 1048576) (k : Nat) (hk : 1048577 ≤ k) : laws_eqItemS.f k l l = some true := by
  unfold laws_eqItemS.f
  rw [if_pos rfl]; exact eqItems_l l hl l.length k 0 (by omega) (by omega) (by omega)

theorem implSame_l (a b : List II) (n : Int) : n = a.length → ∀ (k : Nat) (i : Int), impl_Item.l0 k a b n i = spec_SameStock.l0 k a b i
  | hn, 0, _ => rfl
  | hn, k + 1, i => by
    subst hn
    simp only [impl_Item.l0, spec_SameStock.l0, implSame_l a b _ rfl k]
    by_cases h : i < (a.length : Int)
    · by_cases h0 : 0 ≤ i
      · simp only [if_pos h, if_pos h0]
      · simp only [if_pos h, if_neg h0]
    · simp only [if_neg h]
theorem ImplSame_ (k : Nat) (a b : List II) : impl_SameStock.f k a b = spec_SameStock.f k a b := by
  unfold impl_SameStock.f impl_Item.f spec_SameStock.f
  by_cases h : (a.length : Int) = (b.length : Int)
  · rw [if_pos h, if_pos h, implSame_l a b _ rfl]; cases spec_SameStock.l0 k a b 0 <;> rfl
  · rw [if_neg h, if_neg h]; rfl
theorem specSame_l (a b : List II) (hl : a.length ≤ 1048576) (hb : b.length = a.length) : ∀ (d : Nat) (i : Int), (a.length : Int) - i = d → 0 ≤ i → ∃ r, ∀ k, d < k → spec_SameStock.l0 k a b i = some r := by
  intro d
  induction d with
  | zero =>
    intro i hd h0
    refine ⟨true, fun k hk => ?_⟩
    obtain ⟨k, rfl⟩ : ∃ m, k = m + 1 := ⟨k - 1, by omega⟩
    simp only [spec_SameStock.l0]; rw [if_neg (by omega)]
  | succ d ih =>
    intro i hd h0
    obtain ⟨r, hr⟩ := ih (i + 1) (by omega) (by omega)
    refine ⟨if (!((((rd_T31 a i).f0).toList) == (((rd_T31 b i).f0).toList)) || (!(((rd_T31 a i).f1) == ((rd_T31 b i).f1)) || (!(((rd_T31 a i).f2) == ((rd_T31 b i).f2)) || (!(((rd_T31 a i).f3) == ((rd_T31 b i).f3)))))) = true then false else r, fun k hk => ?_⟩
    obtain ⟨k, rfl⟩ : ∃ m, k = m + 1 := ⟨k - 1, by omega⟩
    simp only [spec_SameStock.l0]
    rw [if_pos (by omega), if_pos h0, if_pos (by omega), w64 (by omega) (by omega), hr k (by omega)]
    split <;> rfl
theorem SpecSame_ (a b : List II) (hl : a.length ≤ 1048576) : ∃ r, ∀ k, 1048577 ≤ k → spec_SameStock.f k a b = some r := by
  unfold spec_SameStock.f
  by_cases h : (a.length : Int) = (b.length : Int)
  · obtain ⟨r, hr⟩ := specSame_l a b hl (by omega) a.length 0 (by omega) (by omega)
    exact ⟨r, fun k hk => by rw [if_pos h]; exact hr k (by omega)⟩
  · exact ⟨false, fun k hk => by rw [if_neg h]⟩

theorem FnExactSameStock : laws_FnExactSameStock.Pure := by
  intro a b ha _ hoa hb _ hob
  refine ⟨1048577, ?_⟩
  unfold laws_FnExactSameStock.f
  obtain ⟨r, hr, hra, hA⟩ := szItems_ a hoa ha 1048576 (by omega) (by omega)
  rw [hA _ (by omega)]; simp only [Option.bind_some]
  by_cases c : r < 0
  · rw [if_pos c]
  obtain ⟨q, hq, hqb, hB⟩ := szItems_ b hob hb r (by omega) (by omega)
  rw [if_neg c, hB _ (by omega)]; simp only [Option.bind_some]
  by_cases e : q < 0
  · rw [if_pos e]
  have la := hra (by omega)
  have lb := hqb (by omega)
  obtain ⟨s, hs⟩ := SpecSame_ (a.map cvI) (b.map cvI) (by simpa using la)
  rw [if_neg e, toItems_ a la _ (by omega)]; simp only [Option.bind_some]
  rw [toItems_ b lb _ (by omega)]; simp only [Option.bind_some]
  rw [ImplSame_, hs _ (by omega)]; simp only [Option.bind_some]
  rw [if_neg (by simp), eqItems_ _ (by simpa using la) _ (by omega)]; simp only [Option.bind_some, if_true]
  rw [eqItems_ _ (by simpa using lb) _ (by omega)]; simp only [Option.bind_some, if_true]

end Go.Proofs.Ytmgljagkmaoopaa.Pure
