/- For all loads the program's ValidLoads answers as the reference's does, and leaves them as they are. No condition. -/
import Derived.Test.YtncejfhmachapaaQFnExactValidLoadsx2
import Derived.Test.YtncejfhmachapaaBase
namespace Go.Proofs.Ytncejfhmachapaa.Pure
open Go Go.RowKit Go.Proofs.Ytncejfhmachapaa.QFnExactValidLoads Go.Proofs.YtncejfhmachapaaW.PrintWords Go.Proofs.YtncejfhmachapaaW.PrintLast Go.Proofs.YtncejfhmachapaaW.PrintMore Go.Proofs.Ytncejfhmachapaa.Base
set_option linter.unusedVariables false
set_option linter.unusedSimpArgs false

theorem gd_ext {α : Type} (z : α) (a l : List α) (h : a.length = l.length) (h2 : ∀ j : Int, 0 ≤ j → j < l.length → a.getD j.toNat z = l.getD j.toNat z) : a = l := by
  apply List.ext_getElem h
  intro n h1 h3
  have := h2 n (by omega) (by omega)
  rw [List.getD_eq_getElem?_getD, List.getD_eq_getElem?_getD, Int.toNat_natCast, List.getElem?_eq_getElem h1, List.getElem?_eq_getElem h3] at this
  exact this
theorem gd_same {α : Type} (z : α) (l : List α) (i : Int) (v : α) (h0 : 0 ≤ i) (h : i < l.length) : (l.set i.toNat v).getD i.toNat z = v := by
  simp [List.getD_eq_getElem?_getD, List.getElem?_set, show i.toNat < l.length by omega]
theorem gd_other {α : Type} (z : α) (l : List α) (i j : Int) (v : α) (h0 : 0 ≤ i) (h1 : 0 ≤ j) (h : i ≠ j) : (l.set i.toNat v).getD j.toNat z = l.getD j.toNat z := by
  simp [List.getD_eq_getElem?_getD, List.getElem?_set, show ¬ i.toNat = j.toNat by omega]
theorem gd_in {α : Type} (z : α) (l : List α) (i : Int) (h0 : 0 ≤ i) (h : i < l.length) : l.getD i.toNat z ∈ l := by
  rw [List.getD_eq_getElem?_getD, List.getElem?_eq_getElem (by omega)]
  exact List.getElem_mem _
theorem gd_map {α β : Type} (z : α) (y : β) (f : α → β) (l : List α) (i : Int) (h0 : 0 ≤ i) (h : i < l.length) : (l.map f).getD i.toNat y = f (l.getD i.toNat z) := by
  rw [List.getD_eq_getElem?_getD, List.getD_eq_getElem?_getD, List.getElem?_map, List.getElem?_eq_getElem (by omega)]
  rfl
theorem size64 {n : Nat} (h : n ≤ maxLen) : (n : Int) ≤ 9223372036854775807 := by
  have e : maxLen = 9223372036854775807 := by decide
  omega

abbrev LL := S74
abbrev IL := S64
def cvL (x : LL) : IL := ⟨x.f0, ⟨x.f1.f0, x.f1.f1⟩⟩
/-- What is left: below 0, or the list is short. -/
theorem szLoads_ (l : List LL) (hm : l.length ≤ maxLen) (m : Int) (h0 : 0 ≤ m) (h1 : m ≤ 1048576) : ∃ r, r ≤ 1048576 ∧ (0 ≤ r → l.length ≤ 1048576) ∧ laws_szLoadS.f l m = some r := by
  have := size64 hm
  unfold laws_szLoadS.f
  rw [w64 (by omega) (by omega)]
  by_cases c : m - (l.length : Int) < 0
  · rw [if_pos c]; exact ⟨_, by omega, fun h => by omega, rfl⟩
  · rw [if_neg c]; exact ⟨_, by omega, fun _ => by omega, rfl⟩
theorem toLoads_l (l : List LL) (hl : l.length ≤ 1048576) : ∀ (d k : Nat) (i : Int) (a : List IL), (l.length : Int) - i = d → 0 ≤ i → a.length = l.length → (∀ j : Int, 0 ≤ j → j < i → a.getD j.toNat z64 = cvL (l.getD j.toNat z74)) → d < k → laws_toLoadS.l0 k l a i = some (l.map cvL) := by
  intro d
  induction d with
  | zero =>
    intro k i a hd h0 ha hr hk
    obtain ⟨k, rfl⟩ : ∃ m, k = m + 1 := ⟨k - 1, by omega⟩
    simp only [laws_toLoadS.l0]; rw [if_neg (by omega)]
    congr 1
    refine gd_ext z64 a _ (by simpa using ha) (fun j h1 h2 => ?_)
    rw [hr j h1 (by simp at h2; omega), gd_map z74 _ _ _ _ h1 (by simpa using h2)]
  | succ d ih =>
    intro k i a hd h0 ha hr hk
    obtain ⟨k, rfl⟩ : ∃ m, k = m + 1 := ⟨k - 1, by omega⟩
    simp only [laws_toLoadS.l0]
    rw [if_pos (by omega), if_pos h0]; simp only [laws_toLoad.f, laws_toSpot.f, Option.bind_some]
    rw [if_pos (by omega), w64 (by omega) (by omega)]
    refine ih k (i + 1) _ (by omega) (by omega) (by simpa using ha) (fun j h1 h2 => ?_) (by omega)
    by_cases e : j = i
    · subst e; rw [gd_same _ _ _ _ h0 (by omega)]; rfl
    · rw [gd_other _ _ _ _ _ h0 h1 (by omega)]; exact hr j h1 (by omega)
theorem toLoads_ (l : List LL) (hl : l.length ≤ 1048576) (k : Nat) (hk : 1048577 ≤ k) : laws_toLoadS.f k l = some (l.map cvL) := by
  unfold laws_toLoadS.f
  rw [if_pos (by omega), if_pos (by simp; omega)]
  exact toLoads_l l hl l.length k 0 _ (by omega) (by omega) (by simp) (fun j h1 h2 => by omega) (by omega)

theorem eqLoads_l (l : List IL) (hl : l.length ≤ 1048576) : ∀ (d k : Nat) (i : Int), (l.length : Int) - i = d → 0 ≤ i → d < k → laws_eqLoadS.l0 k l l i = some true := by
  intro d
  induction d with
  | zero =>
    intro k i hd h0 hk
    obtain ⟨k, rfl⟩ : ∃ m, k = m + 1 := ⟨k - 1, by omega⟩
    simp only [laws_eqLoadS.l0]; rw [if_neg (by omega)]
  | succ d ih =>
    intro k i hd h0 hk
    obtain ⟨k, rfl⟩ : ∃ m, k = m + 1 := ⟨k - 1, by omega⟩
    simp only [laws_eqLoadS.l0]
    rw [if_pos (by omega), if_pos h0, if_pos (by omega)]; simp only [laws_eqLoad.f, laws_eqSpot.f, if_true, Option.bind_some]
    rw [w64 (by omega) (by omega)]
    exact ih k (i + 1) (by omega) (by omega) (by omega)
theorem eqLoads_ (l : List IL) (hl : l.length ≤ 1048576) (k : Nat) (hk : 1048577 ≤ k) : laws_eqLoadS.f k l l = some true := by
  unfold laws_eqLoadS.f
  rw [if_pos rfl]; exact eqLoads_l l hl l.length k 0 (by omega) (by omega) (by omega)

theorem gd_drop {α : Type} (z : α) (l : List α) (i : Int) (h0 : 0 ≤ i) (h : i < l.length) : l.drop i.toNat = l.getD i.toNat z :: l.drop (i + 1).toNat := by
  rw [show (i + 1).toNat = i.toNat + 1 by omega, List.drop_eq_getElem_cons (by omega), List.getD_eq_getElem?_getD, List.getElem?_eq_getElem (by omega)]
  rfl

theorem In_ (a b c : Int) : spec_l00In.f a b c = some (decide (b ≤ a ∧ a ≤ c)) := by
  unfold spec_l00In.f
  by_cases h : a ≥ b
  · rw [if_pos h]; simp [show b ≤ a from h]
  · rw [if_neg h]; simp [show ¬ b ≤ a from h]

def okLs (l : List IL) : Bool := decide ((l.length : Int) ≤ 10) && l.all okLoad
theorem specLoads_l (l : List IL) (hl : l.length ≤ 1048576) : ∀ (d k : Nat) (i : Int), (l.length : Int) - i = d → 0 ≤ i → d < k → spec_l20Ok.l0 k l i = some (decide ((l.length : Int) ≤ 10) && (l.drop i.toNat).all okLoad) := by
  intro d
  induction d with
  | zero =>
    intro k i hd h0 hk
    obtain ⟨k, rfl⟩ : ∃ m, k = m + 1 := ⟨k - 1, by omega⟩
    simp only [spec_l20Ok.l0]; rw [if_neg (by omega), List.drop_eq_nil_of_le (by omega)]; simp
  | succ d ih =>
    intro k i hd h0 hk
    obtain ⟨k, rfl⟩ : ∃ m, k = m + 1 := ⟨k - 1, by omega⟩
    simp only [spec_l20Ok.l0]
    rw [if_pos (by omega), if_pos h0, gd_drop z64 l i h0 (by omega), w64 (by omega) (by omega), ih k (i + 1) (by omega) (by omega) (by omega)]
    show _ = some (decide ((l.length : Int) ≤ 10) && (rd_T64 l i :: l.drop (i + 1).toNat).all okLoad)
    generalize rd_T64 l i = x
    simp only [spec_l02Ok.f, In_, Option.bind_some, List.all_cons, okLoad]
    by_cases h1 : 1 ≤ x.f0 ∧ x.f0 ≤ 1000 <;> by_cases h2 : -324000 ≤ x.f1.f0 ∧ x.f1.f0 ≤ 324000 <;> by_cases h3 : -648000 ≤ x.f1.f1 ∧ x.f1.f1 ≤ 647999 <;> simp [h1, h2, h3]
theorem SpecLoads_ (l : List IL) (hl : l.length ≤ 1048576) (k : Nat) (hk : 1048577 ≤ k) : spec_ValidLoads.f k l = some (okLs l) := by
  unfold spec_ValidLoads.f spec_l20Ok.f okLs
  rw [specLoads_l l hl l.length k 0 (by omega) (by omega) (by omega)]
  simp

theorem FnExactValidLoads : laws_FnExactValidLoads.Pure := by
  intro a ha _ _
  refine ⟨1048577, ?_⟩
  unfold laws_FnExactValidLoads.f
  obtain ⟨r, hr, hra, hA⟩ := szLoads_ a ha 1048576 (by omega) (by omega)
  rw [hA]; simp only [Option.bind_some]
  by_cases c : r < 0
  · rw [if_pos c]
  have la := hra (by omega)
  have lm : (a.map cvL).length ≤ 1048576 := by simpa using la
  rw [if_neg c, toLoads_ a la _ (by omega)]; simp only [Option.bind_some]
  rw [SpecLoads_ _ lm _ (by omega), show impl_ValidLoads.f (a.map cvL) = some (okLs (a.map cvL)) from rfl]; simp only [Option.bind_some]
  rw [if_neg (by simp), eqLoads_ _ lm _ (by omega)]; simp only [Option.bind_some, if_true]

end Go.Proofs.Ytncejfhmachapaa.Pure
