/- For all loads the program's MomentOf answers as the reference's does, leaves the loads as they are, and gives each caller numbers of its own. No condition. -/
import Derived.Test.YtncejfhmachapaaQFnExactMomentOfx4
import Derived.Test.YtncejfhmachapaaBase
import Derived.Test.YtncejfhmachapaaSky
namespace Go.Proofs.Ytncejfhmachapaa.Pure
open Go Go.RowKit Go.Proofs.Ytncejfhmachapaa.QFnExactMomentOf Go.Proofs.YtncejfhmachapaaW.PrintWords Go.Proofs.YtncejfhmachapaaW.PrintLast Go.Proofs.YtncejfhmachapaaW.PrintMore Go.Proofs.Ytncejfhmachapaa.Base
set_option linter.unusedVariables false
set_option linter.unusedSimpArgs false

theorem gd_ext {α : Type} (z : α) (a l : List α) (h : a.length = l.length) (h2 : ∀ j : Int, 0 ≤ j → j < l.length → a.getD j.toNat z = l.getD j.toNat z) : a = l := by
  apply List.ext_getElem h
  intro n h1 h3
  have := h2 n (by omega) (by omega)
  rw [List.getD_eq_getElem?_getD, List.getD_eq_getElem?_getD, Int.toNat_natCast, List.getElem?_eq_getElem h1, List.getElem?_eq_getElem h3] at this
  exact this
theorem gd_same {α : Type} (z : α) (l : List α) (i : Int) (v : α) (h0 : 0 ≤ i) (h : i < l.length) : (l.set i.toNat v).getD i.toNat z = v := by
  simp [List.getD_eq_getElem?_getD, List.getElem?_set, show i.toNat < l.length by omega]
theorem gd_other {α : Type} (z : α) (l : List α) (i j : Int) (v : α) (h0 : 0 ≤ i) (h1 : 0 ≤ j) (h : i ≠ j) : (l.set i.toNat v).getD j.toNat z = l.getD j.toNat z := by
  simp [List.getD_eq_getElem?_getD, List.getElem?_set, show ¬ i.toNat = j.toNat by omega]
theorem gd_in {α : Type} (z : α) (l : List α) (i : Int) (h0 : 0 ≤ i) (h : i < l.length) : l.getD i.toNat z ∈ l := by
  rw [List.getD_eq_getElem?_getD, List.getElem?_eq_getElem (by omega)]
  exact List.getElem_mem _
theorem gd_map {α β : Type} (z : α) (y : β) (f : α → β) (l : List α) (i : Int) (h0 : 0 ≤ i) (h : i < l.length) : (l.map f).getD i.toNat y = f (l.getD i.toNat z) := by
  rw [List.getD_eq_getElem?_getD, List.getD_eq_getElem?_getD, List.getElem?_map, List.getElem?_eq_getElem (by omega)]
  rfl
theorem size64 {n : Nat} (h : n ≤ maxLen) : (n : Int) ≤ 9223372036854775807 := by
  have e : maxLen = 9223372036854775807 := by decide
  omega

abbrev LL := S74
abbrev IL := S64
def cvL (x : LL) : IL := ⟨x.f0, ⟨x.f1.f0, x.f1.f1⟩⟩
/-- What is left: below 0, or the list is short. -/
theorem szLoads_ (l : List LL) (hm : l.length ≤ maxLen) (m : Int) (h0 : 0 ≤ m) (h1 : m ≤ 1048576) : ∃ r, r ≤ 1048576 ∧ (0 ≤ r → l.length ≤ 1048576) ∧ laws_szLoadS.f l m = some r := by
  have := size64 hm
  unfold laws_szLoadS.f
  rw [w64 (by omega) (by omega)]
  by_cases c : m - (l.length : Int) < 0
  · rw [if_pos c]; exact ⟨_, by omega, fun h => by omega, rfl⟩
  · rw [if_neg c]; exact ⟨_, by omega, fun _ => by omega, rfl⟩
theorem toLoads_l (l : List LL) (hl : l.length ≤ 1048576) : ∀ (d k : Nat) (i : Int) (a : List IL), (l.length : Int) - i = d → 0 ≤ i → a.length = l.length → (∀ j : Int, 0 ≤ j → j < i → a.getD j.toNat z64 = cvL (l.getD j.toNat z74)) → d < k → laws_toLoadS.l0 k l a i = some (l.map cvL) := by
  intro d
  induction d with
  | zero =>
    intro k i a hd h0 ha hr hk
    obtain ⟨k, rfl⟩ : ∃ m, k = m + 1 := ⟨k - 1, by omega⟩
    simp only [laws_toLoadS.l0]; rw [if_neg (by omega)]
    congr 1
    refine gd_ext z64 a _ (by simpa using ha) (fun j h1 h2 => ?_)
    rw [hr j h1 (by simp at h2; omega), gd_map z74 _ _ _ _ h1 (by simpa using h2)]
  | succ d ih =>
    intro k i a hd h0 ha hr hk
    obtain ⟨k, rfl⟩ : ∃ m, k = m + 1 := ⟨k - 1, by omega⟩
    simp only [laws_toLoadS.l0]
    rw [if_pos (by omega), if_pos h0]; simp only [laws_toLoad.f, laws_toSpot.f, Option.bind_some]
    rw [if_pos (by omega), w64 (by omega) (by omega)]
    refine ih k (i + 1) _ (by omega) (by omega) (by simpa using ha) (fun j h1 h2 => ?_) (by omega)
    by_cases e : j = i
    · subst e; rw [gd_same _ _ _ _ h0 (by omega)]; rfl
    · rw [gd_other _ _ _ _ _ h0 h1 (by omega)]; exact hr j h1 (by omega)
theorem toLoads_ (l : List LL) (hl : l.length ≤ 1048576) (k : Nat) (hk : 1048577 ≤ k) : laws_toLoadS.f k l = some (l.map cvL) := by
  unfold laws_toLoadS.f
  rw [if_pos (by omega), if_pos (by simp; omega)]
  exact toLoads_l l hl l.length k 0 _ (by omega) (by omega) (by simp) (fun j h1 h2 => by omega) (by omega)

theorem eqLoads_l (l : List IL) (hl : l.length ≤ 1048576) : ∀ (d k : Nat) (i : Int), (l.length : Int) - i = d → 0 ≤ i → d < k → laws_eqLoadS.l0 k l l i = some true := by
  intro d
  induction d with
  | zero =>
    intro k i hd h0 hk
    obtain ⟨k, rfl⟩ : ∃ m, k = m + 1 := ⟨k - 1, by omega⟩
    simp only [laws_eqLoadS.l0]; rw [if_neg (by omega)]
  | succ d ih =>
    intro k i hd h0 hk
    obtain ⟨k, rfl⟩ : ∃ m, k = m + 1 := ⟨k - 1, by omega⟩
    simp only [laws_eqLoadS.l0]
    rw [if_pos (by omega), if_pos h0, if_pos (by omega)]; simp only [laws_eqLoad.f, laws_eqSpot.f, if_true, Option.bind_some]
    rw [w64 (by omega) (by omega)]
    exact ih k (i + 1) (by omega) (by omega) (by omega)
theorem eqLoads_ (l : List IL) (hl : l.length ≤ 1048576) (k : Nat) (hk : 1048577 ≤ k) : laws_eqLoadS.f k l l = some true := by
  unfold laws_eqLoadS.f
  rw [if_pos rfl]; exact eqLoads_l l hl l.length k 0 (by omega) (by omega) (by omega)

theorem eqInts_l (l : List Int) (hl : l.length ≤ 1152921504606846976) : ∀ (d k : Nat) (i : Int), (l.length : Int) - i = d → 0 ≤ i → d < k → laws_eqInt64S.l0 k l l i = some true := by
  intro d
  induction d with
  | zero =>
    intro k i hd h0 hk
    obtain ⟨k, rfl⟩ : ∃ m, k = m + 1 := ⟨k - 1, by omega⟩
    simp only [laws_eqInt64S.l0]; rw [if_neg (by omega)]
  | succ d ih =>
    intro k i hd h0 hk
    obtain ⟨k, rfl⟩ : ∃ m, k = m + 1 := ⟨k - 1, by omega⟩
    simp only [laws_eqInt64S.l0]
    rw [if_pos (by omega), if_pos h0, if_pos (by omega), if_pos trivial, w64 (by omega) (by omega)]
    exact ih k (i + 1) (by omega) (by omega) (by omega)
theorem eqInts_ (l : List Int) (hl : l.length ≤ 1152921504606846976) (k : Nat) (hk : l.length < k) : laws_eqInt64S.f k l l = some true := by
  unfold laws_eqInt64S.f
  rw [if_pos rfl]; exact eqInts_l l hl l.length k 0 (by omega) (by omega) hk

theorem eqI_ (l : List Int) (hl : l.length ≤ 1048576) (k : Nat) (hk : 1048577 ≤ k) : laws_eqInt64S.f k l l = some true := eqInts_ l (by omega) k (by omega)

theorem rd_set_same (l : List Int) (i : Int) (v : Int) (h0 : 0 ≤ i) (h : i < l.length) : rd (l.set i.toNat v) i = v := by
  unfold rd; simp [List.getD_eq_getElem?_getD, List.getElem?_set, show i.toNat < l.length by omega]
theorem rd_set_other (l : List Int) (i j : Int) (v : Int) (h0 : 0 ≤ i) (h1 : 0 ≤ j) (h : i ≠ j) : rd (l.set i.toNat v) j = rd l j := by
  unfold rd; simp [List.getD_eq_getElem?_getD, List.getElem?_set, show ¬ i.toNat = j.toNat by omega]
theorem mark_l : ∀ (d k : Nat) (l : List Int) (i m : Int), (l.length : Int) - i = d → 0 ≤ i → l.length ≤ 1152921504606846976 → 0 ≤ m → m + d ≤ 4611686018427387904 → d < k → ∃ l', laws_markInt64S.l0 k l m i = some (m + d, l') ∧ l'.length = l.length ∧ (∀ j, i ≤ j → j < l.length → rd l' j = m + (j - i)) ∧ ∀ j, 0 ≤ j → j < i → rd l' j = rd l j := by
  intro d
  induction d with
  | zero =>
    intro k l i m hd h0 hl hm hm2 hk
    obtain ⟨k, rfl⟩ : ∃ m, k = m + 1 := ⟨k - 1, by omega⟩
    refine ⟨l, ?_, rfl, fun j h1 h2 => by omega, fun j _ _ => rfl⟩
    simp only [laws_markInt64S.l0]; rw [if_neg (by omega)]; simp
  | succ d ih =>
    intro k l i m hd h0 hl hm hm2 hk
    obtain ⟨k, rfl⟩ : ∃ m, k = m + 1 := ⟨k - 1, by omega⟩
    obtain ⟨l', h1, h2, h3, h4⟩ := ih k (l.set i.toNat m) (i + 1) (m + 1) (by simp; omega) (by omega) (by simpa using hl) (by omega) (by omega) (by omega)
    refine ⟨l', ?_, by simpa using h2, fun j g1 g2 => ?_, fun j g1 g2 => ?_⟩
    · simp only [laws_markInt64S.l0]
      rw [if_pos (by omega), if_pos h0, w64 (n := m + 1) (by omega) (by omega), w64 (n := i + 1) (by omega) (by omega), h1]
      congr 2; omega
    · by_cases e : j = i
      · subst e; rw [h4 j h0 (by omega), rd_set_same _ _ _ h0 (by omega)]; omega
      · rw [h3 j (by omega) (by simpa using g2)]; omega
    · rw [h4 j g1 (by omega), rd_set_other _ _ _ _ h0 g1 (by omega)]
theorem held_l (l : List Int) (hl : l.length ≤ 1152921504606846976) : ∀ (d k : Nat) (i m : Int), (l.length : Int) - i = d → 0 ≤ i → 0 ≤ m → m + d ≤ 4611686018427387904 → d < k → (∀ j, i ≤ j → j < l.length → rd l j = m + (j - i)) → laws_heldInt64S.l0 k l m i = some (m + d) := by
  intro d
  induction d with
  | zero =>
    intro k i m hd h0 hm hm2 hk hr
    obtain ⟨k, rfl⟩ : ∃ m, k = m + 1 := ⟨k - 1, by omega⟩
    simp only [laws_heldInt64S.l0]; rw [if_neg (by omega)]; simp
  | succ d ih =>
    intro k i m hd h0 hm hm2 hk hr
    obtain ⟨k, rfl⟩ : ∃ m, k = m + 1 := ⟨k - 1, by omega⟩
    simp only [laws_heldInt64S.l0]
    rw [if_pos (by omega), if_pos h0, if_pos (by rw [hr i (by omega) (by omega)]; omega), w64 (n := m + 1) (by omega) (by omega), w64 (n := i + 1) (by omega) (by omega), ih k (i + 1) (m + 1) (by omega) (by omega) (by omega) (by omega) (by omega) (fun j g1 g2 => by rw [hr j (by omega) g2]; omega)]
    congr 1; omega
theorem mark_held (l : List Int) (hl : l.length ≤ 1152921504606846976) (k : Nat) (hk : l.length < k) (k' : Nat) (hk' : l.length < k') (k'' : Nat) (hk'' : l.length < k'') : ∃ l', laws_markInt64S.f k l 1 = some (1 + (l.length : Int), l') ∧ laws_heldInt64S.f k' l' 1 = some (1 + (l.length : Int)) ∧ laws_heldInt64S.f k'' l' 1 = some (1 + (l.length : Int)) := by
  obtain ⟨l', h1, h2, h3, h4⟩ := mark_l l.length k l 0 1 (by omega) (by omega) hl (by omega) (by omega) hk
  have hh : ∀ k, l.length < k → laws_heldInt64S.l0 k l' 1 0 = some (1 + (l.length : Int)) := fun k hk => held_l l' (by omega) l.length k 0 1 (by omega) (by omega) (by omega) (by omega) hk (fun j g1 g2 => h3 j g1 (by omega))
  refine ⟨l', ?_, ?_, ?_⟩
  · unfold laws_markInt64S.f; exact h1
  · unfold laws_heldInt64S.f; exact hh k' hk'
  · unfold laws_heldInt64S.f; exact hh k'' hk''

theorem mkI_ (l : List Int) (hl : l.length ≤ 1048576) (m : Int) (h0 : 0 ≤ m) (h1 : m ≤ 1000000000) : ∃ l', ∀ k, 1048577 ≤ k → laws_markInt64S.f k l m = some (m + (l.length : Int), l') := by
  obtain ⟨l', h, _⟩ := mark_l l.length 1048577 l 0 m (by omega) (by omega) (by omega) (by omega) (by omega) (by omega)
  refine ⟨l', fun k hk => ?_⟩
  exact at_rounds (g := fun k => laws_markInt64S.f k l m) (fun k => laws_markInt64S.mono _ _ _) hk (by unfold laws_markInt64S.f; exact h)
theorem mkH_ (l : List Int) (hl : l.length ≤ 1048576) : ∃ l', (∀ k, 1048577 ≤ k → laws_markInt64S.f k l 1 = some (1 + (l.length : Int), l')) ∧ ∀ k, 1048577 ≤ k → laws_heldInt64S.f k l' 1 = some (1 + (l.length : Int)) := by
  obtain ⟨l', h1, h2, h3⟩ := mark_held l (by omega) 1048577 (by omega) 1048577 (by omega) 1048577 (by omega)
  refine ⟨l', fun k hk => ?_, fun k hk => ?_⟩
  · exact at_rounds (g := fun k => laws_markInt64S.f k l 1) (fun k => laws_markInt64S.mono _ _ _) hk h1
  · exact at_rounds (g := fun k => laws_heldInt64S.f k l' 1) (fun k => laws_heldInt64S.mono _ _ _) hk h2

theorem gd_drop {α : Type} (z : α) (l : List α) (i : Int) (h0 : 0 ≤ i) (h : i < l.length) : l.drop i.toNat = l.getD i.toNat z :: l.drop (i + 1).toNat := by
  rw [show (i + 1).toNat = i.toNat + 1 by omega, List.drop_eq_getElem_cons (by omega), List.getD_eq_getElem?_getD, List.getElem?_eq_getElem (by omega)]
  rfl

def wx (a b : Int) : Int := near (cs a * cs b) 1000000
def wy (a b : Int) : Int := near (cs a * sn b) 1000000
def gx (x : IL) : Int := x.f0 * wx x.f1.f0 x.f1.f1
def gy (x : IL) : Int := x.f0 * wy x.f1.f0 x.f1.f1
def gz (x : IL) : Int := x.f0 * sn x.f1.f0
def mom (f : IL → Int) (l : List IL) : Int := (l.map f).sum
theorem mom_cons (f : IL → Int) (x : IL) (l : List IL) : mom f (x :: l) = f x + mom f l := by simp [mom]
theorem wx_bounds (a b : Int) : -1000000 ≤ wx a b ∧ wx a b ≤ 1000000 := by
  unfold wx
  have h1 := cs_bounds a; have h2 := cs_bounds b
  have := mul_bounds (cs a) (cs b) 1000000 1000000 h1.1 h1.2 h2.1 h2.2 (by omega) (by omega)
  exact near_bounds _ _ _ (by omega) (by omega) (by omega)
theorem wy_bounds (a b : Int) : -1000000 ≤ wy a b ∧ wy a b ≤ 1000000 := by
  unfold wy
  have h1 := cs_bounds a; have h2 := sn_bounds b
  have := mul_bounds (cs a) (sn b) 1000000 1000000 h1.1 h1.2 h2.1 h2.2 (by omega) (by omega)
  exact near_bounds _ _ _ (by omega) (by omega) (by omega)
theorem okLoad_iff (x : IL) : okLoad x = true ↔ (1 ≤ x.f0 ∧ x.f0 ≤ 1000) ∧ (-324000 ≤ x.f1.f0 ∧ x.f1.f0 ≤ 324000) ∧ (-648000 ≤ x.f1.f1 ∧ x.f1.f1 ≤ 647999) := by
  unfold okLoad; simp
theorem g_bounds (f w : Int) (h1 : 1 ≤ f) (h2 : f ≤ 1000) (h3 : -1000000 ≤ w) (h4 : w ≤ 1000000) : -1000000000 ≤ f * w ∧ f * w ≤ 1000000000 := by
  have := mul_bounds f w 1000 1000000 (by omega) h2 h3 h4 (by omega) (by omega)
  omega
theorem gs_bounds (x : IL) (h : okLoad x = true) : (-1000000000 ≤ gx x ∧ gx x ≤ 1000000000) ∧ (-1000000000 ≤ gy x ∧ gy x ≤ 1000000000) ∧ (-1000000000 ≤ gz x ∧ gz x ≤ 1000000000) := by
  obtain ⟨⟨h1, h2⟩, h3, h4⟩ := (okLoad_iff x).1 h
  have a := wx_bounds x.f1.f0 x.f1.f1; have b := wy_bounds x.f1.f0 x.f1.f1; have c := sn_bounds x.f1.f0
  exact ⟨g_bounds _ _ h1 h2 a.1 a.2, g_bounds _ _ h1 h2 b.1 b.2, g_bounds _ _ h1 h2 c.1 c.2⟩
theorem mom_bounds (f : IL → Int) (hf : ∀ x, okLoad x = true → -1000000000 ≤ f x ∧ f x ≤ 1000000000) : ∀ l : List IL, l.all okLoad = true → -(1000000000 * (l.length : Int)) ≤ mom f l ∧ mom f l ≤ 1000000000 * (l.length : Int)
  | [], _ => by simp [mom]
  | x :: l, h => by
    simp only [List.all_cons, Bool.and_eq_true] at h
    have := hf x h.1; have := mom_bounds f hf l h.2
    rw [mom_cons]; simp only [List.length_cons]; omega

theorem Floor_ (a b : Int) (hb : 0 < b) (ha : -4611686018427387904 ≤ a) (ha2 : a ≤ 4611686018427387904) : spec_l00Floor.f a b = some (a / b) := by
  unfold spec_l00Floor.f
  rw [if_neg (by omega)]
  obtain ⟨h1, h2⟩ := ediv_bounds a b 4611686018427387904 hb ha ha2 (by omega)
  have e := floor_eq a b hb
  by_cases c : Int.tmod a b < 0
  · rw [if_pos c] at e ⊢; rw [w64 (n := Int.tdiv a b) (by omega) (by omega), w64 (by omega) (by omega), e]
  · rw [if_neg c] at e ⊢; rw [w64 (by omega) (by omega), e]

theorem Round_ (a b : Int) (hb : 0 < b) (hb2 : b ≤ 100000000000000000) (ha : -2000000000000000000 ≤ a) (ha2 : a ≤ 2000000000000000000) : spec_l00Round.f a b = some (near a b) := by
  unfold spec_l00Round.f
  rw [w64 (n := 2 * a) (by omega) (by omega), w64 (n := 2 * a + b) (by omega) (by omega), w64 (n := 2 * b) (by omega) (by omega), Floor_ _ _ (by omega) (by omega) (by omega)]
  rfl

theorem SpecSine_lo (k : Nat) (hk : 2 ≤ k) (x : Int) (h0 : 0 ≤ x) (h1 : x ≤ 648000) : spec_l03Sine.f k x = some (sn0 x) := by
  obtain ⟨k, rfl⟩ : ∃ m, k = m + 2 := ⟨k - 2, by omega⟩
  have tm : Int.tmod x 1296000 = x := by rw [tmod_eq _ _ (by omega), if_pos h0]; omega
  simp only [spec_l03Sine.f]
  rw [tm, if_neg (by omega)]
  simp only [spec_l03Sine.j0]
  rw [if_neg (by omega), w64 (n := 648000 - x) (by omega) (by omega)]
  have hp := pp_bounds x h0 h1
  rw [show x * (648000 - x) = pp x from rfl, w64 (n := pp x) (by omega) (by omega), w64 (n := 16 * pp x) (by omega) (by omega), w64 (n := 16 * pp x * 1000000) (by omega) (by omega), w64 (n := 5 * 648000) (by omega) (by omega), w64 (n := 5 * 648000 * 648000) (by omega) (by omega), w64 (n := 4 * pp x) (by omega) (by omega), w64 (n := 5 * 648000 * 648000 - 4 * pp x) (by omega) (by omega), Round_ _ _ (by omega) (by omega) (by omega) (by omega)]
  simp only [Option.bind_some]
  unfold sn0 sp
  rw [show 16 * pp x * 1000000 = 16000000 * pp x by omega, show 5 * 648000 * 648000 - 4 * pp x = 2099520000000 - 4 * pp x by omega]

theorem SpecSine_j (k : Nat) (hk : 3 ≤ k) (x : Int) (h0 : 0 ≤ x) (h1 : x < 1296000) : spec_l03Sine.j0 k 648000 x = some (if x ≥ 648000 then -(sn0 (x - 648000)) else sn0 x) := by
  by_cases c : x > 648000
  · obtain ⟨k, rfl⟩ : ∃ m, k = m + 1 := ⟨k - 1, by omega⟩
    simp only [spec_l03Sine.j0]
    have := sn0_bounds (x - 648000) (by omega) (by omega)
    rw [if_pos c, w64 (n := x - 648000) (by omega) (by omega), SpecSine_lo k (by omega) _ (by omega) (by omega)]
    simp only [Option.bind_some]
    rw [w64 (by omega) (by omega), if_pos (by omega)]
  · have h := SpecSine_lo (k + 1) (by omega) x h0 (by omega)
    have tm : Int.tmod x 1296000 = x := by rw [tmod_eq _ _ (by omega), if_pos h0]; omega
    simp only [spec_l03Sine.f] at h
    rw [tm, if_neg (by omega)] at h
    rw [h]
    by_cases e : x = 648000
    · subst e; decide
    · rw [if_neg (by omega)]

theorem SpecSine_ (k : Nat) (hk : 6 ≤ k) (a : Int) : spec_l03Sine.f k a = some (sn a) := by
  obtain ⟨k, rfl⟩ : ∃ m, k = m + 1 := ⟨k - 1, by omega⟩
  simp only [spec_l03Sine.f]
  have tm := tmod_eq a 1296000 (by omega)
  by_cases c : Int.tmod a 1296000 < 0
  · have e : Int.tmod a 1296000 + 1296000 = a % 1296000 := by rw [tm] at c ⊢; split at c <;> omega
    rw [if_pos c, e, w64 (by omega) (by omega), SpecSine_j k (by omega) _ (by omega) (by omega)]; rfl
  · have e : Int.tmod a 1296000 = a % 1296000 := by rw [tm] at c ⊢; split at c <;> omega
    rw [if_neg c, e, SpecSine_j k (by omega) _ (by omega) (by omega)]; rfl

theorem SpecCosine_ (k : Nat) (hk : 6 ≤ k) (a : Int) (h0 : -4611686018427387904 ≤ a) (h1 : a ≤ 4611686018427387904) : spec_l03Cosine.f k a = some (cs a) := by
  unfold spec_l03Cosine.f
  rw [w64 (by omega) (by omega), SpecSine_ k hk]; rfl

theorem SpecWays_ (k : Nat) (hk : 6 ≤ k) (a b : Int) (ha : -324000 ≤ a ∧ a ≤ 324000) (hb : -648000 ≤ b ∧ b ≤ 647999) : spec_l20Ways.f k a b = some [wx a b, wy a b, sn a] := by
  unfold spec_l20Ways.f
  rw [SpecCosine_ k hk _ (by omega) (by omega), SpecCosine_ k hk _ (by omega) (by omega), SpecSine_ k hk, SpecSine_ k hk]; simp only [Option.bind_some]
  have h1 := cs_bounds a; have h2 := cs_bounds b; have h3 := sn_bounds b
  have m1 := mul_bounds (cs a) (cs b) 1000000 1000000 h1.1 h1.2 h2.1 h2.2 (by omega) (by omega)
  have m2 := mul_bounds (cs a) (sn b) 1000000 1000000 h1.1 h1.2 h3.1 h3.2 (by omega) (by omega)
  rw [w64 (n := cs a * cs b) (by omega) (by omega), w64 (n := cs a * sn b) (by omega) (by omega), Round_ _ _ (by omega) (by omega) (by omega) (by omega), Round_ _ _ (by omega) (by omega) (by omega) (by omega)]
  rfl
theorem specMom_step (k : Nat) (l : List IL) (x3 x5 : List Int) (i j : Int) (h3 : x3.length = 3) (h5 : x5.length = 3) (j0 : 0 ≤ j) (j1 : j < 3) (i0 : 0 ≤ i) (i1 : i < l.length) : spec_l20Moment.l1 (k + 1) l x3 i x5 j = spec_l20Moment.l1 k l (x3.set j.toNat (wrap64 (rd x3 j + wrap64 ((rd_T64 l i).f0 * rd x5 j)))) i x5 (j + 1) := by
  simp only [spec_l20Moment.l1]
  rw [if_pos j1, if_pos j0, if_pos (by omega), if_pos i0, if_pos i1, if_pos (by omega), w64 (n := j + 1) (by omega) (by omega)]
theorem specMom_end (k : Nat) (l : List IL) (x3 x5 : List Int) (i : Int) (i0 : 0 ≤ i) (i1 : i < 1000000) : spec_l20Moment.l1 (k + 1) l x3 i x5 3 = spec_l20Moment.l0 k l x3 (i + 1) := by
  simp only [spec_l20Moment.l1]
  rw [if_neg (by omega), w64 (n := i + 1) (by omega) (by omega)]
theorem specMom_3 (k : Nat) (l : List IL) (a b c x y z : Int) (i : Int) (i0 : 0 ≤ i) (i1 : i < l.length) (i2 : i < 1000000) : spec_l20Moment.l1 (k + 1 + 1 + 1 + 1) l [a, b, c] i [x, y, z] 0 = spec_l20Moment.l0 k l [wrap64 (a + wrap64 ((rd_T64 l i).f0 * x)), wrap64 (b + wrap64 ((rd_T64 l i).f0 * y)), wrap64 (c + wrap64 ((rd_T64 l i).f0 * z))] (i + 1) := by
  rw [specMom_step _ _ _ _ _ _ rfl rfl (by omega) (by omega) i0 i1, specMom_step _ _ _ _ _ _ rfl rfl (by omega) (by omega) i0 i1, specMom_step _ _ _ _ _ _ rfl rfl (by omega) (by omega) i0 i1]
  show spec_l20Moment.l1 (k + 1) l _ i _ 3 = _
  rw [specMom_end _ _ _ _ _ i0 i2]
  rfl
theorem specMom_l (l : List IL) (hl : l.length ≤ 10) (ho : l.all okLoad = true) : ∀ (d k : Nat) (i a b c : Int), (l.length : Int) - i = d → 0 ≤ i → (-(1000000000 * i) ≤ a ∧ a ≤ 1000000000 * i) → (-(1000000000 * i) ≤ b ∧ b ≤ 1000000000 * i) → (-(1000000000 * i) ≤ c ∧ c ≤ 1000000000 * i) → 6 * d + 20 < k →
    spec_l20Moment.l0 k l [a, b, c] i = some [a + mom gx (l.drop i.toNat), b + mom gy (l.drop i.toNat), c + mom gz (l.drop i.toNat)] := by
  intro d
  induction d with
  | zero =>
    intro k i a b c hd h0 ha hb hc hk
    obtain ⟨k, rfl⟩ : ∃ m, k = m + 1 := ⟨k - 1, by omega⟩
    simp only [spec_l20Moment.l0]
    rw [if_neg (by omega), List.drop_eq_nil_of_le (by omega)]
    simp [mom]
  | succ d ih =>
    intro k i a b c hd h0 ha hb hc hk
    obtain ⟨k, rfl⟩ : ∃ m, k = m + 1 + 1 + 1 + 1 + 1 := ⟨k - 5, by omega⟩
    have hx : okLoad (rd_T64 l i) = true := List.all_eq_true.1 ho _ (by
      have := gd_drop z64 l i h0 (by omega)
      have hm : l.getD i.toNat z64 ∈ l.drop i.toNat := by rw [this]; exact List.mem_cons_self
      exact List.mem_of_mem_drop hm)
    obtain ⟨o1, o2, o3⟩ := (okLoad_iff _).1 hx
    obtain ⟨b1, b2, b3⟩ := gs_bounds _ hx
    rw [show spec_l20Moment.l0 (k + 1 + 1 + 1 + 1 + 1) l [a, b, c] i = (if i < (l.length : Int) then (if 0 ≤ i then ((spec_l20Ways.f (k + 1 + 1 + 1 + 1) ((rd_T64 l i).f1.f0) ((rd_T64 l i).f1.f1)).bind fun t => (spec_l20Moment.l1 (k + 1 + 1 + 1 + 1) l [a, b, c] i t 0)) else (none)) else (some [a, b, c])) from by simp only [spec_l20Moment.l0]]
    rw [if_pos (by omega), if_pos h0, SpecWays_ _ (by omega) _ _ o2 o3]; simp only [Option.bind_some]
    rw [specMom_3 _ _ _ _ _ _ _ _ _ h0 (by omega) (by omega), show l.drop i.toNat = rd_T64 l i :: l.drop (i + 1).toNat from gd_drop z64 l i h0 (by omega), mom_cons, mom_cons, mom_cons]
    unfold gx at b1; unfold gy at b2; unfold gz at b3
    rw [w64 (n := (rd_T64 l i).f0 * wx _ _) (by omega) (by omega), w64 (n := (rd_T64 l i).f0 * wy _ _) (by omega) (by omega), w64 (n := (rd_T64 l i).f0 * sn _) (by omega) (by omega), w64 (n := a + _) (by omega) (by omega), w64 (n := b + _) (by omega) (by omega), w64 (n := c + _) (by omega) (by omega)]
    rw [ih k (i + 1) _ _ _ (by omega) (by omega) (by omega) (by omega) (by omega) (by omega)]
    congr 1
    unfold gx gy gz
    simp only [List.cons.injEq, and_true]
    refine ⟨by omega, by omega, by omega⟩
theorem SpecMom_ (l : List IL) (hl : l.length ≤ 10) (ho : l.all okLoad = true) (k : Nat) (hk : 100 ≤ k) : spec_l20Moment.f k l = some [mom gx l, mom gy l, mom gz l] := by
  unfold spec_l20Moment.f
  rw [specMom_l l hl ho l.length k 0 0 0 0 (by omega) (by omega) (by omega) (by omega) (by omega) (by omega)]
  simp

theorem floorDiv_ (a b : Int) (hb : 0 < b) (ha : -4611686018427387904 ≤ a) (ha2 : a ≤ 4611686018427387904) : impl_floorDiv.f a b = some (a / b) := by
  unfold impl_floorDiv.f
  rw [if_neg (by omega)]
  obtain ⟨h1, h2⟩ := ediv_bounds a b 4611686018427387904 hb ha ha2 (by omega)
  have e := floor_eq a b hb
  by_cases c : Int.tmod a b < 0
  · rw [if_pos c] at e ⊢; rw [w64 (n := Int.tdiv a b) (by omega) (by omega), w64 (by omega) (by omega), e]
  · rw [if_neg c] at e ⊢; rw [w64 (by omega) (by omega), e]

theorem nearest_ (a b : Int) (hb : 0 < b) (hb2 : b ≤ 100000000000000000) (ha : -2000000000000000000 ≤ a) (ha2 : a ≤ 2000000000000000000) : impl_nearest.f a b = some (near a b) := by
  unfold impl_nearest.f
  rw [w64 (n := 2 * a) (by omega) (by omega), w64 (n := 2 * a + b) (by omega) (by omega), w64 (n := 2 * b) (by omega) (by omega), floorDiv_ _ _ (by omega) (by omega) (by omega)]
  rfl

theorem around_ (a : Int) (ha : -9223372036854775808 ≤ a) (ha2 : a ≤ 9223372036854775807) : impl_around.f a = some (a % 1296000) := by
  unfold impl_around.f
  have h1 : Int.tmod a 1296000 = if 0 ≤ a then a % 1296000 else -(-a % 1296000) := tmod_eq _ _ (by omega)
  have h2 : -1296000 < Int.tmod a 1296000 ∧ Int.tmod a 1296000 < 1296000 := by rw [h1]; split <;> omega
  rw [w64 (n := Int.tmod a 1296000 + 1296000) (by omega) (by omega), tmod_eq _ _ (by omega), if_pos (by omega), h1]
  split
  · congr 1; omega
  · congr 1; omega

theorem ImplSine_lo (k : Nat) (hk : 1 ≤ k) (x : Int) (h0 : 0 ≤ x) (h1 : x < 648000) : impl_sine.f k x = some (sn0 x) := by
  obtain ⟨k, rfl⟩ : ∃ m, k = m + 1 := ⟨k - 1, by omega⟩
  simp only [impl_sine.f]
  rw [around_ _ (by omega) (by omega)]; simp only [Option.bind_some]
  rw [show x % 1296000 = x by omega, if_neg (by omega), w64 (n := 648000 - x) (by omega) (by omega)]
  have hp := pp_bounds x h0 (by omega)
  rw [show x * (648000 - x) = pp x from rfl, w64 (n := pp x) (by omega) (by omega), w64 (n := 16000000 * pp x) (by omega) (by omega), w64 (n := 4 * pp x) (by omega) (by omega), w64 (n := 2099520000000 - 4 * pp x) (by omega) (by omega), nearest_ _ _ (by omega) (by omega) (by omega) (by omega)]
  rfl

theorem ImplSine_ (k : Nat) (hk : 6 ≤ k) (a : Int) (h0 : -9223372036854775808 ≤ a) (h1 : a ≤ 9223372036854775807) : impl_sine.f k a = some (sn a) := by
  by_cases c : a % 1296000 ≥ 648000
  · obtain ⟨k, rfl⟩ : ∃ m, k = m + 1 := ⟨k - 1, by omega⟩
    simp only [impl_sine.f]
    rw [around_ _ h0 h1]; simp only [Option.bind_some]
    have := sn0_bounds (a % 1296000 - 648000) (by omega) (by omega)
    rw [if_pos c, w64 (n := a % 1296000 - 648000) (by omega) (by omega), ImplSine_lo k (by omega) _ (by omega) (by omega)]
    simp only [Option.bind_some]
    rw [w64 (by omega) (by omega)]; unfold sn; rw [if_pos c]
  · have h := ImplSine_lo k (by omega) (a % 1296000) (by omega) (by omega)
    obtain ⟨k, rfl⟩ : ∃ m, k = m + 1 := ⟨k - 1, by omega⟩
    simp only [impl_sine.f] at h ⊢
    rw [around_ _ (by omega) (by omega)] at h; rw [around_ _ h0 h1]
    rw [show a % 1296000 % 1296000 = a % 1296000 by omega] at h
    unfold sn; rw [if_neg c]; exact h

theorem ImplCosine_ (k : Nat) (hk : 6 ≤ k) (a : Int) (h0 : -4611686018427387904 ≤ a) (h1 : a ≤ 4611686018427387904) : impl_cosine.f k a = some (cs a) := by
  unfold impl_cosine.f
  rw [w64 (by omega) (by omega), ImplSine_ k hk _ (by omega) (by omega)]; rfl

theorem ImplWith_ (k : Nat) (hk : 6 ≤ k) (a b c la lo g : Int) (ha : -324000 ≤ la ∧ la ≤ 324000) (hb : -648000 ≤ lo ∧ lo ≤ 647999) (hg : 1 ≤ g ∧ g ≤ 1000) (h1 : -1000000000000 ≤ a ∧ a ≤ 1000000000000) (h2 : -1000000000000 ≤ b ∧ b ≤ 1000000000000) (h3 : -1000000000000 ≤ c ∧ c ≤ 1000000000000) :
    impl_moment_with.f k a b c la lo g = some (a + g * wx la lo, b + g * wy la lo, c + g * sn la) := by
  unfold impl_moment_with.f
  rw [ImplCosine_ k hk _ (by omega) (by omega), ImplCosine_ k hk _ (by omega) (by omega), ImplSine_ k hk _ (by omega) (by omega), ImplSine_ k hk _ (by omega) (by omega)]; simp only [Option.bind_some]
  have q1 := cs_bounds la; have q2 := cs_bounds lo; have q3 := sn_bounds lo
  have m1 := mul_bounds (cs la) (cs lo) 1000000 1000000 q1.1 q1.2 q2.1 q2.2 (by omega) (by omega)
  have m2 := mul_bounds (cs la) (sn lo) 1000000 1000000 q1.1 q1.2 q3.1 q3.2 (by omega) (by omega)
  rw [w64 (n := cs la * cs lo) (by omega) (by omega), w64 (n := cs la * sn lo) (by omega) (by omega), nearest_ _ _ (by omega) (by omega) (by omega) (by omega), nearest_ _ _ (by omega) (by omega) (by omega) (by omega)]; simp only [Option.bind_some]
  rw [show near (cs la * cs lo) 1000000 = wx la lo from rfl, show near (cs la * sn lo) 1000000 = wy la lo from rfl]
  have w1 := wx_bounds la lo; have w2 := wy_bounds la lo; have w3 := sn_bounds la
  have g1 := g_bounds g _ hg.1 hg.2 w1.1 w1.2; have g2 := g_bounds g _ hg.1 hg.2 w2.1 w2.2; have g3 := g_bounds g _ hg.1 hg.2 w3.1 w3.2
  rw [w64 (n := g * wx la lo) (by omega) (by omega), w64 (n := g * wy la lo) (by omega) (by omega), w64 (n := g * sn la) (by omega) (by omega), w64 (n := a + _) (by omega) (by omega), w64 (n := b + _) (by omega) (by omega), w64 (n := c + _) (by omega) (by omega)]
theorem implMom_l (l : List IL) (hl : l.length ≤ 10) (ho : l.all okLoad = true) : ∀ (d k : Nat) (i a b c : Int), (l.length : Int) - i = d → 0 ≤ i → (-(1000000000 * i) ≤ a ∧ a ≤ 1000000000 * i) → (-(1000000000 * i) ≤ b ∧ b ≤ 1000000000 * i) → (-(1000000000 * i) ≤ c ∧ c ≤ 1000000000 * i) → d + 20 < k →
    impl_momentOf.l0 k l (l.length : Int) i a b c = some (a + mom gx (l.drop i.toNat), b + mom gy (l.drop i.toNat), c + mom gz (l.drop i.toNat)) := by
  intro d
  induction d with
  | zero =>
    intro k i a b c hd h0 ha hb hc hk
    obtain ⟨k, rfl⟩ : ∃ m, k = m + 1 := ⟨k - 1, by omega⟩
    simp only [impl_momentOf.l0]
    rw [if_neg (by omega), List.drop_eq_nil_of_le (by omega)]
    simp [mom]
  | succ d ih =>
    intro k i a b c hd h0 ha hb hc hk
    obtain ⟨k, rfl⟩ : ∃ m, k = m + 1 := ⟨k - 1, by omega⟩
    have hx : okLoad (rd_T64 l i) = true := List.all_eq_true.1 ho _ (by
      have := gd_drop z64 l i h0 (by omega)
      have hm : l.getD i.toNat z64 ∈ l.drop i.toNat := by rw [this]; exact List.mem_cons_self
      exact List.mem_of_mem_drop hm)
    obtain ⟨o1, o2, o3⟩ := (okLoad_iff _).1 hx
    obtain ⟨b1, b2, b3⟩ := gs_bounds _ hx
    simp only [impl_momentOf.l0]
    rw [if_pos (by omega), if_pos h0, if_pos (by omega), ImplWith_ k (by omega) _ _ _ _ _ _ o2 o3 o1 (by omega) (by omega) (by omega)]; simp only [Option.bind_some]
    unfold gx at b1; unfold gy at b2; unfold gz at b3
    rw [w64 (n := i + 1) (by omega) (by omega), ih k (i + 1) _ _ _ (by omega) (by omega) (by omega) (by omega) (by omega) (by omega), show l.drop i.toNat = rd_T64 l i :: l.drop (i + 1).toNat from gd_drop z64 l i h0 (by omega), mom_cons, mom_cons, mom_cons]
    congr 1
    unfold gx gy gz
    simp only [Prod.mk.injEq]
    refine ⟨by omega, by omega, by omega⟩
theorem ImplMom_ (l : List IL) (hl : l.length ≤ 10) (ho : l.all okLoad = true) (k : Nat) (hk : 100 ≤ k) : impl_momentOf.f k l = some (mom gx l, mom gy l, mom gz l) := by
  unfold impl_momentOf.f
  rw [implMom_l l hl ho l.length k 0 0 0 0 (by omega) (by omega) (by omega) (by omega) (by omega) (by omega)]
  simp

theorem In_ (a b c : Int) : spec_l00In.f a b c = some (decide (b ≤ a ∧ a ≤ c)) := by
  unfold spec_l00In.f
  by_cases h : a ≥ b
  · rw [if_pos h]; simp [show b ≤ a from h]
  · rw [if_neg h]; simp [show ¬ b ≤ a from h]

def okLs (l : List IL) : Bool := decide ((l.length : Int) ≤ 10) && l.all okLoad
theorem specLoads_l (l : List IL) (hl : l.length ≤ 1048576) : ∀ (d k : Nat) (i : Int), (l.length : Int) - i = d → 0 ≤ i → d < k → spec_l20Ok.l0 k l i = some (decide ((l.length : Int) ≤ 10) && (l.drop i.toNat).all okLoad) := by
  intro d
  induction d with
  | zero =>
    intro k i hd h0 hk
    obtain ⟨k, rfl⟩ : ∃ m, k = m + 1 := ⟨k - 1, by omega⟩
    simp only [spec_l20Ok.l0]; rw [if_neg (by omega), List.drop_eq_nil_of_le (by omega)]; simp
  | succ d ih =>
    intro k i hd h0 hk
    obtain ⟨k, rfl⟩ : ∃ m, k = m + 1 := ⟨k - 1, by omega⟩
    simp only [spec_l20Ok.l0]
    rw [if_pos (by omega), if_pos h0, gd_drop z64 l i h0 (by omega), w64 (by omega) (by omega), ih k (i + 1) (by omega) (by omega) (by omega)]
    show _ = some (decide ((l.length : Int) ≤ 10) && (rd_T64 l i :: l.drop (i + 1).toNat).all okLoad)
    generalize rd_T64 l i = x
    simp only [spec_l02Ok.f, In_, Option.bind_some, List.all_cons, okLoad]
    by_cases h1 : 1 ≤ x.f0 ∧ x.f0 ≤ 1000 <;> by_cases h2 : -324000 ≤ x.f1.f0 ∧ x.f1.f0 ≤ 324000 <;> by_cases h3 : -648000 ≤ x.f1.f1 ∧ x.f1.f1 ≤ 647999 <;> simp [h1, h2, h3]
theorem SpecOk20_ (l : List IL) (hl : l.length ≤ 1048576) (k : Nat) (hk : 1048577 ≤ k) : spec_l20Ok.f k l = some (okLs l) := by
  unfold spec_l20Ok.f okLs
  rw [specLoads_l l hl l.length k 0 (by omega) (by omega) (by omega)]
  simp

theorem okLs_iff (l : List IL) : okLs l = true ↔ (l.length ≤ 10 ∧ l.all okLoad = true) := by
  unfold okLs; simp only [Bool.and_eq_true, decide_eq_true_eq]
  constructor
  · intro h; exact ⟨by omega, h.2⟩
  · intro h; exact ⟨by omega, h.2⟩
theorem moms_bounds (l : List IL) (h : okLs l = true) : (-10000000000 ≤ mom gx l ∧ mom gx l ≤ 10000000000) ∧ (-10000000000 ≤ mom gy l ∧ mom gy l ≤ 10000000000) ∧ (-10000000000 ≤ mom gz l ∧ mom gz l ≤ 10000000000) := by
  obtain ⟨h1, h2⟩ := (okLs_iff l).1 h
  have a := mom_bounds gx (fun x hx => (gs_bounds x hx).1) l h2
  have b := mom_bounds gy (fun x hx => (gs_bounds x hx).2.1) l h2
  have c := mom_bounds gz (fun x hx => (gs_bounds x hx).2.2) l h2
  omega

theorem FnExactMomentOf : laws_FnExactMomentOf.Pure := by
  intro a ha _ _
  obtain ⟨r, hr, hra, hA⟩ := szLoads_ a ha 1048576 (by omega) (by omega)
  by_cases c : r < 0
  · refine ⟨0, ?_⟩
    unfold laws_FnExactMomentOf.f
    rw [hA]; simp only [Option.bind_some]; rw [if_pos c]
  have la := hra (by omega)
  have lm : (a.map cvL).length ≤ 1048576 := by simpa using la
  have key : ∃ R : List Int × Int, R.1.length ≤ 1048576 ∧ (∀ k, 1048577 ≤ k → spec_MomentOf.f k (a.map cvL) = some R) ∧ ∀ k, 1048577 ≤ k → impl_MomentOf.f k (a.map cvL) = some R := by
    by_cases h : okLs (a.map cvL) = true
    · obtain ⟨o1, o2⟩ := (okLs_iff _).1 h
      refine ⟨([mom gx (a.map cvL), mom gy (a.map cvL), mom gz (a.map cvL)], 0), by simp, fun k hk => ?_, fun k hk => ?_⟩
      · unfold spec_MomentOf.f
        rw [SpecOk20_ _ lm k hk, h]; simp only [Option.bind_some, if_true]
        rw [SpecMom_ _ o1 o2 k (by omega)]; rfl
      · unfold impl_MomentOf.f
        rw [show impl_ValidLoads.f (a.map cvL) = some (okLs (a.map cvL)) from rfl, h]; simp only [Option.bind_some, if_true]
        rw [ImplMom_ _ o1 o2 k (by omega)]; rfl
    · refine ⟨([], 1), by simp, fun k hk => ?_, fun k hk => ?_⟩
      · unfold spec_MomentOf.f
        rw [SpecOk20_ _ lm k hk]; simp only [Option.bind_some]; rw [if_neg h]
      · unfold impl_MomentOf.f
        rw [show impl_ValidLoads.f (a.map cvL) = some (okLs (a.map cvL)) from rfl]; simp only [Option.bind_some]; rw [if_neg h]
  obtain ⟨⟨R, cd⟩, hRl, hS, hI⟩ := key
  have hER := eqI_ R hRl
  obtain ⟨R', hMR, hH⟩ := mkH_ R hRl
  have mk0 : ∀ (n : Nat) (x : Int), 0 ≤ x → x + 3 * n ≤ 1000000000000 → mkl n x = x + 3 * n := by
    intro n
    induction n with
    | zero => intro x _ _; simp [mkl]
    | succ n ih =>
      intro x h0 h1
      rw [mkl, w64 (n := x + 1) (by omega) (by omega), w64 (n := x + 1 + 1) (by omega) (by omega), w64 (n := x + 1 + 1 + 1) (by omega) (by omega), ih _ (by omega) (by omega)]
      omega
  refine ⟨1048800, ?_⟩
  unfold laws_FnExactMomentOf.f
  rw [hA]; simp only [Option.bind_some]
  rw [if_neg c, toLoads_ a la _ (by omega)]; simp only [Option.bind_some]
  rw [hS _ (by omega), hI _ (by omega)]; simp only [Option.bind_some, if_true]
  rw [hER _ (by omega)]; simp only [Option.bind_some, if_true]
  rw [eqLoads_ _ lm _ (by omega)]; simp only [Option.bind_some, if_true]
  rw [show laws_markLoadS.f (a.map cvL) 1 = some (mkl (a.map cvL).length 1) from by unfold laws_markLoadS.f; rw [if_pos lm], mk0 _ _ (by omega) (by omega)]; simp only [Option.bind_some]
  rw [if_neg (by omega), hMR _ (by omega)]; simp only [Option.bind_some]
  rw [hH _ (by omega)]; simp only [Option.bind_some]
  rw [if_neg (by simp at hRl ⊢; omega)]; simp

end Go.Proofs.Ytncejfhmachapaa.Pure
