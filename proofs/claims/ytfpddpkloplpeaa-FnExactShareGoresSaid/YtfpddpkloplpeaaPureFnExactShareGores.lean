/- For all gores and hands the program's ShareGores answers as the reference's does, in memory of its own. No condition. -/
import Derived.Test.YtfpddpkloplpeaaQFnExactShareGoresx2
import Derived.Test.YtfpddpkloplpeaaBase
namespace Go.Proofs.Ytfpddpkloplpeaa.Pure
open Go Go.RowKit Go.Proofs.Ytfpddpkloplpeaa.QFnExactShareGores Go.Proofs.YtfpddpkloplpeaaW.PrintWords Go.Proofs.YtfpddpkloplpeaaW.PrintLast Go.Proofs.YtfpddpkloplpeaaW.PrintMore Go.Proofs.Ytfpddpkloplpeaa.Base
set_option linter.unusedVariables false
set_option linter.unusedSimpArgs false

def okS (l : List Int) : Bool := decide (2 ≤ (l.length : Int) ∧ (l.length : Int) ≤ 24) && l.all fun x => decide (-1000 ≤ x ∧ x ≤ 1000)
theorem okS_says {l : List Int} (h : okS l = true) : 2 ≤ l.length ∧ l.length ≤ 24 ∧ (∀ x ∈ l, -1000 ≤ x ∧ x ≤ 1000) ∧ ∀ i : Int, 0 ≤ i → i < l.length → -1000 ≤ rd l i ∧ rd l i ≤ 1000 := by
  unfold okS at h
  simp only [Bool.and_eq_true, decide_eq_true_eq, List.all_eq_true] at h
  exact ⟨by omega, by omega, h.2, fun i h0 h1 => h.2 _ (rd_in l i h0 h1)⟩

/-- Shares of a sum: the greater ones first. -/
def share (s n i : Int) : Int := if i < s - s / n * n then s / n + 1 else s / n
theorem share_div (s n : Int) (h : 1 ≤ n) : 0 ≤ s - s / n * n ∧ s - s / n * n < n := by
  have a := Int.ediv_mul_le s (b := n) (by omega)
  have b := Int.lt_ediv_add_one_mul_self s (b := n) (by omega)
  rw [Int.add_mul, Int.one_mul] at b
  omega

theorem In_ (a b c : Int) : spec_l00In.f a b c = some (decide (b ≤ a ∧ a ≤ c)) := by
  unfold spec_l00In.f
  by_cases h : a ≥ b
  · rw [if_pos h]; simp [show b ≤ a from h]
  · rw [if_neg h]; simp [show ¬ b ≤ a from h]

theorem spec_gores_l (s n : Int) (hn : 1 ≤ n) (hn2 : n ≤ 4) (hs : 1 ≤ s) (hs2 : s ≤ 48) : ∀ (d k : Nat) (i : Int) (a : List Int), n - i = d → 0 ≤ i → (a.length : Int) ≤ i → d < k → spec_ShareGores.l0 k s n a i = some (a ++ from_ (share s n) i d, 0) := by
  have hb := share_div s n hn
  have hq := ediv_bounds s n 100000 (by omega) (by omega) (by omega) (by omega)
  have hm : Int.tmod s n = s - s / n * n := by
    rw [Int.tmod_eq_emod_of_nonneg (by omega), Int.emod_def, Int.mul_comm]
  intro d
  induction d with
  | zero =>
    intro k i a hd h0 ha hk
    obtain ⟨k, rfl⟩ : ∃ m, k = m + 1 := ⟨k - 1, by omega⟩
    simp only [spec_ShareGores.l0]; rw [if_neg (by omega)]; simp [from_]
  | succ d ih =>
    intro k i a hd h0 ha hk
    obtain ⟨k, rfl⟩ : ∃ m, k = m + 1 := ⟨k - 1, by omega⟩
    simp only [spec_ShareGores.l0]
    rw [if_pos (show i < n by omega), if_neg (show ¬ n = 0 by omega), hm, Int.tdiv_eq_ediv_of_nonneg (by omega), w64 (n := s / n) (by omega) (by omega), w64 (n := s / n + 1) (by omega) (by omega), w64 (n := i + 1) (by omega) (by omega), from_succ]
    by_cases c : i < s - s / n * n
    · rw [if_pos c, if_pos (by omega), ih k (i + 1) _ (by omega) (by omega) (by simp; omega) (by omega)]; simp [share, c]
    · rw [if_neg c, if_pos (by omega), ih k (i + 1) _ (by omega) (by omega) (by simp; omega) (by omega)]; simp [share, c]
def goresR (a b : Int) : List Int × Int := if (1 ≤ a ∧ a ≤ 48) ∧ (1 ≤ b ∧ b ≤ 4) then (from_ (share a b) 0 b.toNat, 0) else ([], 2)
theorem SpecGores_ (a b : Int) (k : Nat) (hk : 10 ≤ k) : spec_ShareGores.f k a b = some (goresR a b) := by
  obtain ⟨k, rfl⟩ : ∃ m, k = m + 1 := ⟨k - 1, by omega⟩
  unfold spec_ShareGores.f goresR
  rw [In_, In_]; simp only [Option.bind_some, decide_eq_true_eq]
  by_cases h1 : 1 ≤ a ∧ a ≤ 48
  · rw [if_pos h1]; simp only [spec_ShareGores.j0]
    by_cases h2 : 1 ≤ b ∧ b ≤ 4
    · rw [if_neg (by simp [h2]), if_pos ⟨h1, h2⟩, spec_gores_l a b h2.1 h2.2 h1.1 h1.2 b.toNat k 0 [] (by omega) (by omega) (by simp) (by omega)]; simp
    · rw [if_pos (by simp; omega), if_neg (by omega)]
  · rw [if_neg h1, if_neg (by omega)]; simp only [spec_ShareGores.j0, if_true]

theorem floorDiv_ (a b : Int) (hb : 0 < b) (ha : -4611686018427387904 ≤ a) (ha2 : a ≤ 4611686018427387904) : impl_floorDiv.f a b = some (a / b) := by
  unfold impl_floorDiv.f
  rw [if_neg (by omega)]
  obtain ⟨h1, h2⟩ := ediv_bounds a b 4611686018427387904 hb ha ha2 (by omega)
  have e := floor_eq a b hb
  by_cases c : Int.tmod a b < 0
  · rw [if_pos c] at e ⊢; rw [w64 (n := Int.tdiv a b) (by omega) (by omega), w64 (by omega) (by omega), e]
  · rw [if_neg c] at e ⊢; rw [w64 (by omega) (by omega), e]

theorem shares_l (s n : Int) (hn : 1 ≤ n) (hn2 : n ≤ 100) (hs : -100000 ≤ s) (hs2 : s ≤ 100000) : ∀ (d k : Nat) (i : Int) (a : List Int), n - i = d → 0 ≤ i → (a.length : Int) ≤ i → d < k → impl_shares.l0 k s n a n i = some (a ++ from_ (share s n) i d) := by
  have hb := share_div s n hn
  have hq := ediv_bounds s n 100000 (by omega) (by omega) (by omega) (by omega)
  intro d
  induction d with
  | zero =>
    intro k i a hd h0 ha hk
    obtain ⟨k, rfl⟩ : ∃ m, k = m + 1 := ⟨k - 1, by omega⟩
    simp only [impl_shares.l0]; rw [if_neg (by omega)]; simp [from_]
  | succ d ih =>
    intro k i a hd h0 ha hk
    obtain ⟨k, rfl⟩ : ∃ m, k = m + 1 := ⟨k - 1, by omega⟩
    simp only [impl_shares.l0]
    rw [if_pos (by omega), floorDiv_ _ _ (by omega) (by omega) (by omega)]; simp only [Option.bind_some]
    rw [w64 (n := s / n * n) (by omega) (by omega), w64 (n := s - s / n * n) (by omega) (by omega), w64 (n := s / n + 1) (by omega) (by omega), w64 (n := i + 1) (by omega) (by omega), from_succ]
    by_cases c : i < s - s / n * n
    · rw [if_pos c, if_pos (by omega), ih k (i + 1) _ (by omega) (by omega) (by simp; omega) (by omega)]; simp [share, c]
    · rw [if_neg c, if_pos (by omega), ih k (i + 1) _ (by omega) (by omega) (by simp; omega) (by omega)]; simp [share, c]

theorem within_ (a b c : Int) : impl_within.f a b c = some (decide (b ≤ a ∧ a ≤ c)) := by
  unfold impl_within.f
  by_cases h : a ≥ b
  · rw [if_pos h]; simp [show b ≤ a from h]
  · rw [if_neg h]; simp [show ¬ b ≤ a from h]

theorem ImplGores_ (a b : Int) (k : Nat) (hk : 10 ≤ k) : impl_ShareGores.f k a b = some (goresR a b) := by
  unfold impl_ShareGores.f goresR
  rw [within_, within_]; simp only [Option.bind_some, decide_eq_true_eq]
  by_cases h1 : 1 ≤ a ∧ a ≤ 48
  · rw [if_pos h1]
    by_cases h2 : 1 ≤ b ∧ b ≤ 4
    · rw [if_pos h2, if_pos ⟨h1, h2⟩]
      unfold impl_shares.f
      rw [shares_l a b (by omega) (by omega) (by omega) (by omega) b.toNat k 0 [] (by omega) (by omega) (by simp) (by omega)]; simp
    · rw [if_neg h2, if_neg (by omega)]
  · rw [if_neg h1, if_neg (by omega)]

theorem eqInts_l (l : List Int) (hl : l.length ≤ 1152921504606846976) : ∀ (d k : Nat) (i : Int), (l.length : Int) - i = d → 0 ≤ i → d < k → laws_eqInt64S.l0 k l l i = some true := by
  intro d
  induction d with
  | zero =>
    intro k i hd h0 hk
    obtain ⟨k, rfl⟩ : ∃ m, k = m + 1 := ⟨k - 1, by omega⟩
    simp only [laws_eqInt64S.l0]; rw [if_neg (by omega)]
  | succ d ih =>
    intro k i hd h0 hk
    obtain ⟨k, rfl⟩ : ∃ m, k = m + 1 := ⟨k - 1, by omega⟩
    simp only [laws_eqInt64S.l0]
    rw [if_pos (by omega), if_pos h0, if_pos (by omega), if_pos trivial, w64 (by omega) (by omega)]
    exact ih k (i + 1) (by omega) (by omega) (by omega)
theorem eqInts_ (l : List Int) (hl : l.length ≤ 1152921504606846976) (k : Nat) (hk : l.length < k) : laws_eqInt64S.f k l l = some true := by
  unfold laws_eqInt64S.f
  rw [if_pos rfl]; exact eqInts_l l hl l.length k 0 (by omega) (by omega) hk

theorem rd_set_same (l : List Int) (i : Int) (v : Int) (h0 : 0 ≤ i) (h : i < l.length) : rd (l.set i.toNat v) i = v := by
  unfold rd; simp [List.getD_eq_getElem?_getD, List.getElem?_set, show i.toNat < l.length by omega]
theorem rd_set_other (l : List Int) (i j : Int) (v : Int) (h0 : 0 ≤ i) (h1 : 0 ≤ j) (h : i ≠ j) : rd (l.set i.toNat v) j = rd l j := by
  unfold rd; simp [List.getD_eq_getElem?_getD, List.getElem?_set, show ¬ i.toNat = j.toNat by omega]
theorem mark_l : ∀ (d k : Nat) (l : List Int) (i m : Int), (l.length : Int) - i = d → 0 ≤ i → l.length ≤ 1152921504606846976 → 0 ≤ m → m + d ≤ 4611686018427387904 → d < k → ∃ l', laws_markInt64S.l0 k l m i = some (m + d, l') ∧ l'.length = l.length ∧ (∀ j, i ≤ j → j < l.length → rd l' j = m + (j - i)) ∧ ∀ j, 0 ≤ j → j < i → rd l' j = rd l j := by
  intro d
  induction d with
  | zero =>
    intro k l i m hd h0 hl hm hm2 hk
    obtain ⟨k, rfl⟩ : ∃ m, k = m + 1 := ⟨k - 1, by omega⟩
    refine ⟨l, ?_, rfl, fun j h1 h2 => by omega, fun j _ _ => rfl⟩
    simp only [laws_markInt64S.l0]; rw [if_neg (by omega)]; simp
  | succ d ih =>
    intro k l i m hd h0 hl hm hm2 hk
    obtain ⟨k, rfl⟩ : ∃ m, k = m + 1 := ⟨k - 1, by omega⟩
    obtain ⟨l', h1, h2, h3, h4⟩ := ih k (l.set i.toNat m) (i + 1) (m + 1) (by simp; omega) (by omega) (by simpa using hl) (by omega) (by omega) (by omega)
    refine ⟨l', ?_, by simpa using h2, fun j g1 g2 => ?_, fun j g1 g2 => ?_⟩
    · simp only [laws_markInt64S.l0]
      rw [if_pos (by omega), if_pos h0, w64 (n := m + 1) (by omega) (by omega), w64 (n := i + 1) (by omega) (by omega), h1]
      congr 2; omega
    · by_cases e : j = i
      · subst e; rw [h4 j h0 (by omega), rd_set_same _ _ _ h0 (by omega)]; omega
      · rw [h3 j (by omega) (by simpa using g2)]; omega
    · rw [h4 j g1 (by omega), rd_set_other _ _ _ _ h0 g1 (by omega)]
theorem held_l (l : List Int) (hl : l.length ≤ 1152921504606846976) : ∀ (d k : Nat) (i m : Int), (l.length : Int) - i = d → 0 ≤ i → 0 ≤ m → m + d ≤ 4611686018427387904 → d < k → (∀ j, i ≤ j → j < l.length → rd l j = m + (j - i)) → laws_heldInt64S.l0 k l m i = some (m + d) := by
  intro d
  induction d with
  | zero =>
    intro k i m hd h0 hm hm2 hk hr
    obtain ⟨k, rfl⟩ : ∃ m, k = m + 1 := ⟨k - 1, by omega⟩
    simp only [laws_heldInt64S.l0]; rw [if_neg (by omega)]; simp
  | succ d ih =>
    intro k i m hd h0 hm hm2 hk hr
    obtain ⟨k, rfl⟩ : ∃ m, k = m + 1 := ⟨k - 1, by omega⟩
    simp only [laws_heldInt64S.l0]
    rw [if_pos (by omega), if_pos h0, if_pos (by rw [hr i (by omega) (by omega)]; omega), w64 (n := m + 1) (by omega) (by omega), w64 (n := i + 1) (by omega) (by omega), ih k (i + 1) (m + 1) (by omega) (by omega) (by omega) (by omega) (by omega) (fun j g1 g2 => by rw [hr j (by omega) g2]; omega)]
    congr 1; omega
theorem mark_held (l : List Int) (hl : l.length ≤ 1152921504606846976) (k : Nat) (hk : l.length < k) (k' : Nat) (hk' : l.length < k') (k'' : Nat) (hk'' : l.length < k'') : ∃ l', laws_markInt64S.f k l 1 = some (1 + (l.length : Int), l') ∧ laws_heldInt64S.f k' l' 1 = some (1 + (l.length : Int)) ∧ laws_heldInt64S.f k'' l' 1 = some (1 + (l.length : Int)) := by
  obtain ⟨l', h1, h2, h3, h4⟩ := mark_l l.length k l 0 1 (by omega) (by omega) hl (by omega) (by omega) hk
  have hh : ∀ k, l.length < k → laws_heldInt64S.l0 k l' 1 0 = some (1 + (l.length : Int)) := fun k hk => held_l l' (by omega) l.length k 0 1 (by omega) (by omega) (by omega) (by omega) hk (fun j g1 g2 => h3 j g1 (by omega))
  refine ⟨l', ?_, ?_, ?_⟩
  · unfold laws_markInt64S.f; exact h1
  · unfold laws_heldInt64S.f; exact hh k' hk'
  · unfold laws_heldInt64S.f; exact hh k'' hk''

theorem FnExactShareGores : laws_FnExactShareGores.Pure := by
  intro a b _ _
  have hr : ∀ k, 10 ≤ k → spec_ShareGores.f k a b = some (goresR a b) := fun k hk => SpecGores_ a b k hk
  have hi : ∀ k, 10 ≤ k → impl_ShareGores.f k a b = some (goresR a b) := fun k hk => ImplGores_ a b k hk
  have hl0 : (goresR a b).1.length ≤ 10 := by
    unfold goresR; split
    · simp only [from_len]; omega
    · simp
  generalize goresR a b = r at hr hi hl0
  obtain ⟨l, c⟩ := r
  have hl : l.length ≤ 10 := hl0
  obtain ⟨l', g1, g2, g3⟩ := mark_held l (by omega) 1003 (by omega) 1003 (by omega) 1002 (by omega)
  refine ⟨1004, ?_⟩
  unfold laws_FnExactShareGores.f
  rw [hr _ (by omega)]; simp only [Option.bind_some]
  rw [hi _ (by omega)]; simp only [Option.bind_some]
  rw [eqInts_ l (by omega) _ (by omega)]; simp only [Option.bind_some, if_true, laws_FnExactShareGores.j0]
  rw [if_neg (by simp), g1]; simp only [Option.bind_some]
  rw [g2]; simp only [Option.bind_some]
  rw [if_neg (by omega), if_pos trivial, hi _ (by omega)]; simp only [Option.bind_some]
  rw [eqInts_ l (by omega) _ (by omega)]; simp only [Option.bind_some, if_true, laws_FnExactShareGores.j1]
  rw [if_neg (by simp), g3]; simp only [Option.bind_some]
  rw [if_neg (by omega), if_pos trivial]

end Go.Proofs.Ytfpddpkloplpeaa.Pure
