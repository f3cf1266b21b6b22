/- For all widths, lengths and slacks the program's ClosingBounds answers as the reference's does. No condition. -/
import Derived.Test.YtcgcmnebenllcaaQFnExactClosingBoundsx2
import Derived.Test.YtcgcmnebenllcaaBase
namespace Go.Proofs.Ytcgcmnebenllcaa.Pure
open Go Go.RowKit Go.Proofs.Ytcgcmnebenllcaa.QFnExactClosingBounds Go.Proofs.YtcgcmnebenllcaaW.PrintWords Go.Proofs.YtcgcmnebenllcaaW.PrintLast Go.Proofs.YtcgcmnebenllcaaW.PrintMore Go.Proofs.Ytcgcmnebenllcaa.Base
set_option linter.unusedVariables false
set_option linter.unusedSimpArgs false

/-- A sum as the machine reckons it. -/
def wsum (l : List Int) (a : Int) : Int := l.foldl (fun s x => wrap64 (s + x)) a
theorem wsum_is (B : Int) (hB : 0 ≤ B) : ∀ (l : List Int) (a : Int), (∀ x ∈ l, -B ≤ x ∧ x ≤ B) → -9000000000000000000 + B * l.length ≤ a → a + B * l.length ≤ 9000000000000000000 → wsum l a = a + l.sum ∧ -(B * l.length) ≤ l.sum ∧ l.sum ≤ B * l.length
  | [], a, _, _, _ => by simp [wsum]
  | x :: l, a, hx, h1, h2 => by
    have hxb := hx x (by simp)
    have e : B * ((x :: l).length : Int) = B * (l.length : Int) + B := by simp [Int.mul_add]
    have hn : 0 ≤ B * (l.length : Int) := Int.mul_nonneg hB (by omega)
    have ih := wsum_is B hB l (a + x) (fun y hy => hx y (by simp [hy])) (by omega) (by omega)
    refine ⟨?_, ?_, ?_⟩
    · unfold wsum at ih ⊢; rw [List.foldl_cons, w64 (by omega) (by omega), ih.1, List.sum_cons]; omega
    · rw [List.sum_cons]; omega
    · rw [List.sum_cons]; omega

def okW (l : List Int) (a s : Int) : Bool := decide (2 ≤ (l.length : Int) ∧ (l.length : Int) ≤ 24) && l.all (fun x => decide (1 ≤ x ∧ x ≤ 10000)) && decide (1 ≤ a ∧ a ≤ 1000000) && decide (0 ≤ s ∧ s ≤ 1000)
def closeR (l : List Int) (a s : Int) : Int × Int × Int := if okW l a s = true then (a - l.sum - s * l.length, a - l.sum + s * l.length, 0) else (0, 0, 2)
theorem okW_says {l : List Int} {a s : Int} (h : okW l a s = true) : 2 ≤ l.length ∧ l.length ≤ 24 ∧ wsum l 0 = l.sum ∧ -240000 ≤ l.sum ∧ l.sum ≤ 240000 ∧ (1 ≤ a ∧ a ≤ 1000000) ∧ 0 ≤ s ∧ s ≤ 1000 ∧ 0 ≤ s * l.length ∧ s * l.length ≤ 24000 := by
  unfold okW at h
  simp only [Bool.and_eq_true, decide_eq_true_eq, List.all_eq_true] at h
  obtain ⟨⟨⟨h1, h2⟩, h3⟩, h4⟩ := h
  obtain ⟨x, y, z⟩ := wsum_is 10000 (by omega) l 0 (fun x hx => by have := h2 x hx; omega) (by omega) (by omega)
  have p1 : 0 ≤ s * (l.length : Int) := Int.mul_nonneg h4.1 (by omega)
  have p2 : s * (l.length : Int) ≤ 1000 * 24 := Int.mul_le_mul (by omega) (by omega) (by omega) (by omega)
  exact ⟨by omega, by omega, by omega, by omega, by omega, h3, h4.1, h4.2, p1, by omega⟩

theorem In_ (a b c : Int) : spec_l00In.f a b c = some (decide (b ≤ a ∧ a ≤ c)) := by
  unfold spec_l00In.f
  by_cases h : a ≥ b
  · rw [if_pos h]; simp [show b ≤ a from h]
  · rw [if_neg h]; simp [show ¬ b ≤ a from h]

theorem specSum_l (l : List Int) (hl : l.length ≤ 1048576) : ∀ (d k : Nat) (i a : Int), (l.length : Int) - i = d → 0 ≤ i → d < k → spec_l00Sum.l0 k l a i = some (wsum (l.drop i.toNat) a) := by
  intro d
  induction d with
  | zero =>
    intro k i a hd h0 hk
    obtain ⟨k, rfl⟩ : ∃ m, k = m + 1 := ⟨k - 1, by omega⟩
    simp only [spec_l00Sum.l0]; rw [if_neg (by omega), List.drop_eq_nil_of_le (by omega)]; rfl
  | succ d ih =>
    intro k i a hd h0 hk
    obtain ⟨k, rfl⟩ : ∃ m, k = m + 1 := ⟨k - 1, by omega⟩
    simp only [spec_l00Sum.l0]
    rw [if_pos (by omega), if_pos h0, w64 (n := i + 1) (by omega) (by omega), ih k (i + 1) _ (by omega) (by omega) (by omega), drop_rd l i h0 (by omega)]; rfl
theorem SpecSum_ (l : List Int) (hl : l.length ≤ 1048576) (k : Nat) (hk : l.length < k) : spec_l00Sum.f k l = some (wsum l 0) := by
  unfold spec_l00Sum.f
  rw [specSum_l l hl l.length k 0 0 (by omega) (by omega) hk]; simp

theorem specClose_l (l : List Int) (a s : Int) (hl : l.length ≤ 1048576) : ∀ (d k : Nat) (i : Int), (l.length : Int) - i = d → 0 ≤ i → d + 1048578 ≤ k → (∀ j : Int, 0 ≤ j → j < i → 1 ≤ rd l j ∧ rd l j ≤ 10000) → spec_ClosingBounds.l0 k l a s i = some (closeR l a s) := by
  intro d
  induction d with
  | zero =>
    intro k i hd h0 hk hp
    obtain ⟨k, rfl⟩ : ∃ m, k = m + 1 := ⟨k - 1, by omega⟩
    simp only [spec_ClosingBounds.l0]; rw [if_neg (by omega), In_, In_, In_]; simp only [Option.bind_some, decide_eq_true_eq]
    have hall : l.all (fun x => decide (1 ≤ x ∧ x ≤ 10000)) = true := by
      rw [List.all_eq_true]; intro x hx
      obtain ⟨n, hn, rfl⟩ := List.getElem_of_mem hx
      have := hp n (by omega) (by omega)
      unfold rd at this
      rw [List.getD_eq_getElem?_getD, Int.toNat_natCast, List.getElem?_eq_getElem hn] at this
      simpa using this
    unfold closeR
    by_cases c1 : 2 ≤ (l.length : Int) ∧ (l.length : Int) ≤ 24
    · by_cases c2 : 1 ≤ a ∧ a ≤ 1000000
      · by_cases c3 : 0 ≤ s ∧ s ≤ 1000
        · have ho : okW l a s = true := by unfold okW; rw [decide_eq_true c1, decide_eq_true c2, decide_eq_true c3, hall]; rfl
          obtain ⟨q1, q2, q3, q4, q5, q6, q7, q8, q9, q10⟩ := okW_says ho
          rw [if_pos c1, if_pos c2, if_pos c3, if_pos ho, SpecSum_ l hl k (by omega), q3]; simp only [Option.bind_some]
          rw [Int.mul_comm (l.length : Int) s, w64 (n := a - l.sum) (by omega) (by omega), w64 (n := s * (l.length : Int)) (by omega) (by omega), w64 (by omega) (by omega), w64 (by omega) (by omega)]
        · have ho : ¬ okW l a s = true := by unfold okW; simp only [Bool.and_eq_true, decide_eq_true_eq]; exact fun x => c3 x.2
          rw [if_pos c1, if_pos c2, if_neg c3, if_neg ho]
      · have ho : ¬ okW l a s = true := by unfold okW; simp only [Bool.and_eq_true, decide_eq_true_eq]; exact fun x => c2 x.1.2
        rw [if_pos c1, if_neg c2, if_neg ho]
    · have ho : ¬ okW l a s = true := by unfold okW; simp only [Bool.and_eq_true, decide_eq_true_eq]; exact fun x => c1 x.1.1.1
      rw [if_neg c1, if_neg ho]
  | succ d ih =>
    intro k i hd h0 hk hp
    obtain ⟨k, rfl⟩ : ∃ m, k = m + 1 := ⟨k - 1, by omega⟩
    simp only [spec_ClosingBounds.l0]
    rw [if_pos (by omega), if_pos h0, In_]; simp only [Option.bind_some, decide_eq_true_eq]
    by_cases c : 1 ≤ rd l i ∧ rd l i ≤ 10000
    · rw [if_pos c, w64 (by omega) (by omega)]
      refine ih k (i + 1) (by omega) (by omega) (by omega) (fun j a b => ?_)
      by_cases e : j = i
      · subst e; exact c
      · exact hp j a (by omega)
    · have ho : ¬ okW l a s = true := by
        unfold okW; simp only [Bool.and_eq_true, decide_eq_true_eq, List.all_eq_true]
        exact fun x => c (x.1.1.2 _ (rd_in l i h0 (by omega)))
      rw [if_neg c]; unfold closeR; rw [if_neg ho]
theorem SpecClose_ (l : List Int) (a s : Int) (hl : l.length ≤ 1048576) (k : Nat) (hk : 2100000 ≤ k) : spec_ClosingBounds.f k l a s = some (closeR l a s) := by
  unfold spec_ClosingBounds.f
  exact specClose_l l a s hl l.length k 0 (by omega) (by omega) (by omega) (fun j a b => by omega)

theorem within_ (a b c : Int) : impl_within.f a b c = some (decide (b ≤ a ∧ a ≤ c)) := by
  unfold impl_within.f
  by_cases h : a ≥ b
  · rw [if_pos h]; simp [show b ≤ a from h]
  · rw [if_neg h]; simp [show ¬ b ≤ a from h]

theorem implSum_l (l : List Int) (hl : l.length ≤ 1048576) : ∀ (d k : Nat) (i a : Int), (l.length : Int) - i = d → 0 ≤ i → d < k → impl_sumOf.l0 k a l l.length i = some (wsum (l.drop i.toNat) a) := by
  intro d
  induction d with
  | zero =>
    intro k i a hd h0 hk
    obtain ⟨k, rfl⟩ : ∃ m, k = m + 1 := ⟨k - 1, by omega⟩
    simp only [impl_sumOf.l0]; rw [if_neg (by omega), List.drop_eq_nil_of_le (by omega)]; rfl
  | succ d ih =>
    intro k i a hd h0 hk
    obtain ⟨k, rfl⟩ : ∃ m, k = m + 1 := ⟨k - 1, by omega⟩
    simp only [impl_sumOf.l0]
    rw [if_pos (by omega), if_pos h0, if_pos (by omega), w64 (n := i + 1) (by omega) (by omega), ih k (i + 1) _ (by omega) (by omega) (by omega), drop_rd l i h0 (by omega)]; rfl
theorem ImplSum_ (l : List Int) (hl : l.length ≤ 1048576) (k : Nat) (hk : l.length < k) : impl_sumOf.f k l = some (wsum l 0) := by
  unfold impl_sumOf.f
  rw [implSum_l l hl l.length k 0 0 (by omega) (by omega) hk]; simp

theorem ImplClose_ (l : List Int) (a s : Int) (k : Nat) (hk : 30 ≤ k) : impl_ClosingBounds.f k l a s = some (closeR l a s) := by
  unfold impl_ClosingBounds.f closeR impl_allWithin.f
  rw [within_, within_]; simp only [Option.bind_some, decide_eq_true_eq]
  by_cases c1 : 2 ≤ (l.length : Int) ∧ (l.length : Int) ≤ 24
  · rw [if_neg (by omega), if_neg (by omega)]
    by_cases c0 : l.all (fun x => decide (1 ≤ x ∧ x ≤ 10000)) = true
    · by_cases c2 : 1 ≤ a ∧ a ≤ 1000000
      · by_cases c3 : 0 ≤ s ∧ s ≤ 1000
        · have ho : okW l a s = true := by unfold okW; rw [decide_eq_true c1, decide_eq_true c2, decide_eq_true c3, c0]; rfl
          obtain ⟨q1, q2, q3, q4, q5, q6, q7, q8, q9, q10⟩ := okW_says ho
          rw [if_pos c0, if_pos c2, if_pos c3, if_pos ho, ImplSum_ l (by omega) k (by omega), q3]; simp only [Option.bind_some]
          rw [w64 (n := a - l.sum) (by omega) (by omega), w64 (n := s * (l.length : Int)) (by omega) (by omega), w64 (by omega) (by omega), w64 (by omega) (by omega)]
        · have ho : ¬ okW l a s = true := by unfold okW; simp only [Bool.and_eq_true, decide_eq_true_eq]; exact fun x => c3 x.2
          rw [if_pos c0, if_pos c2, if_neg c3, if_neg ho]
      · have ho : ¬ okW l a s = true := by unfold okW; simp only [Bool.and_eq_true, decide_eq_true_eq]; exact fun x => c2 x.1.2
        rw [if_pos c0, if_neg c2, if_neg ho]
    · have ho : ¬ okW l a s = true := by unfold okW; simp only [Bool.and_eq_true]; exact fun x => c0 x.1.1.2
      rw [if_neg c0, if_neg ho]
  · have ho : ¬ okW l a s = true := by unfold okW; simp only [Bool.and_eq_true, decide_eq_true_eq]; exact fun x => c1 x.1.1.1
    rw [if_neg ho]
    by_cases c2 : (l.length : Int) < 2
    · rw [if_pos c2]
    · rw [if_neg c2, if_pos (by omega)]

theorem toInts_l (l : List Int) (hl : l.length ≤ 1048576) : ∀ (d k : Nat) (i : Int) (a : List Int), (l.length : Int) - i = d → 0 ≤ i → a.length = l.length → (∀ j : Int, 0 ≤ j → j < i → rd a j = rd l j) → d < k → laws_toInt64S.l0 k l a i = some l := by
  intro d
  induction d with
  | zero =>
    intro k i a hd h0 ha hr hk
    obtain ⟨k, rfl⟩ : ∃ m, k = m + 1 := ⟨k - 1, by omega⟩
    simp only [laws_toInt64S.l0]; rw [if_neg (by omega)]
    congr 1
    exact rd_ext a l ha (fun j h1 h2 => hr j h1 (by omega))
  | succ d ih =>
    intro k i a hd h0 ha hr hk
    obtain ⟨k, rfl⟩ : ∃ m, k = m + 1 := ⟨k - 1, by omega⟩
    simp only [laws_toInt64S.l0]
    rw [if_pos (by omega), if_pos h0, if_pos (by omega), w64 (by omega) (by omega)]
    refine ih k (i + 1) _ (by omega) (by omega) (by simpa using ha) (fun j h1 h2 => ?_) (by omega)
    by_cases e : j = i
    · subst e; exact rd_same _ _ _ h0 (by omega)
    · rw [rd_other _ _ _ _ h0 h1 (by omega)]; exact hr j h1 (by omega)
theorem toInts_ (l : List Int) (hl : l.length ≤ 1048576) (k : Nat) (hk : 1048577 ≤ k) : laws_toInt64S.f k l = some l := by
  unfold laws_toInt64S.f
  rw [if_pos (by omega), if_pos (by simp; omega)]
  exact toInts_l l hl l.length k 0 _ (by omega) (by omega) (by simp) (fun j h1 h2 => by omega) (by omega)

theorem eqInts_l (l : List Int) (hl : l.length ≤ 1152921504606846976) : ∀ (d k : Nat) (i : Int), (l.length : Int) - i = d → 0 ≤ i → d < k → laws_eqInt64S.l0 k l l i = some true := by
  intro d
  induction d with
  | zero =>
    intro k i hd h0 hk
    obtain ⟨k, rfl⟩ : ∃ m, k = m + 1 := ⟨k - 1, by omega⟩
    simp only [laws_eqInt64S.l0]; rw [if_neg (by omega)]
  | succ d ih =>
    intro k i hd h0 hk
    obtain ⟨k, rfl⟩ : ∃ m, k = m + 1 := ⟨k - 1, by omega⟩
    simp only [laws_eqInt64S.l0]
    rw [if_pos (by omega), if_pos h0, if_pos (by omega), if_pos trivial, w64 (by omega) (by omega)]
    exact ih k (i + 1) (by omega) (by omega) (by omega)
theorem eqInts_ (l : List Int) (hl : l.length ≤ 1152921504606846976) (k : Nat) (hk : l.length < k) : laws_eqInt64S.f k l l = some true := by
  unfold laws_eqInt64S.f
  rw [if_pos rfl]; exact eqInts_l l hl l.length k 0 (by omega) (by omega) hk

theorem eqI_ (l : List Int) (hl : l.length ≤ 1048576) (k : Nat) (hk : 1048577 ≤ k) : laws_eqInt64S.f k l l = some true := eqInts_ l (by omega) k (by omega)

theorem FnExactClosingBounds : laws_FnExactClosingBounds.Pure := by
  intro l a s
  intros
  refine ⟨2100010, ?_⟩
  unfold laws_FnExactClosingBounds.f
  by_cases hb : (l.length : Int) > 1048576
  · rw [if_pos hb]
  have hl : l.length ≤ 1048576 := by omega
  have hT := toInts_ l hl
  have hE := eqI_ l hl
  rw [if_neg hb, hT _ (by omega)]; simp only [Option.bind_some]
  rw [SpecClose_ l a s hl _ (by omega)]; simp only [Option.bind_some]
  rw [ImplClose_ l a s _ (by omega)]; simp only [Option.bind_some, if_true, laws_FnExactClosingBounds.j0, bne_self_eq_false, Bool.false_eq_true, if_false]
  rw [hT _ (by omega)]; simp only [Option.bind_some]
  rw [hE _ (by omega)]; simp

end Go.Proofs.Ytcgcmnebenllcaa.Pure
