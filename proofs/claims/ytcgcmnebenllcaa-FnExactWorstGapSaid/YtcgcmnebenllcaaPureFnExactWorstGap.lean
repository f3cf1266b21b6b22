/- For all lists of gaps the program's WorstGap answers as the reference's does. No condition. -/
import Derived.Test.YtcgcmnebenllcaaQFnExactWorstGapx2
import Derived.Test.YtcgcmnebenllcaaBase
namespace Go.Proofs.Ytcgcmnebenllcaa.Pure
open Go Go.RowKit Go.Proofs.Ytcgcmnebenllcaa.QFnExactWorstGap Go.Proofs.YtcgcmnebenllcaaW.PrintWords Go.Proofs.YtcgcmnebenllcaaW.PrintLast Go.Proofs.YtcgcmnebenllcaaW.PrintMore Go.Proofs.Ytcgcmnebenllcaa.Base
set_option linter.unusedVariables false
set_option linter.unusedSimpArgs false

theorem In_ (a b c : Int) : spec_l00In.f a b c = some (decide (b ≤ a ∧ a ≤ c)) := by
  unfold spec_l00In.f
  by_cases h : a ≥ b
  · rw [if_pos h]; simp [show b ≤ a from h]
  · rw [if_neg h]; simp [show ¬ b ≤ a from h]

def okS (l : List Int) : Bool := decide (2 ≤ (l.length : Int) ∧ (l.length : Int) ≤ 24) && l.all fun x => decide (-1000 ≤ x ∧ x ≤ 1000)
theorem okS_says {l : List Int} (h : okS l = true) : 2 ≤ l.length ∧ l.length ≤ 24 ∧ (∀ x ∈ l, -1000 ≤ x ∧ x ≤ 1000) ∧ ∀ i : Int, 0 ≤ i → i < l.length → -1000 ≤ rd l i ∧ rd l i ≤ 1000 := by
  unfold okS at h
  simp only [Bool.and_eq_true, decide_eq_true_eq, List.all_eq_true] at h
  exact ⟨by omega, by omega, h.2, fun i h0 h1 => h.2 _ (rd_in l i h0 h1)⟩

theorem specOk_l (l : List Int) (hl : l.length ≤ 1048576) : ∀ (d k : Nat) (i : Int), (l.length : Int) - i = d → 0 ≤ i → d < k → spec_l19Ok.l0 k l i = some ((l.drop i.toNat).all (fun x => decide (-1000 ≤ x ∧ x ≤ 1000)) && decide (2 ≤ (l.length : Int) ∧ (l.length : Int) ≤ 24)) := by
  intro d
  induction d with
  | zero =>
    intro k i hd h0 hk
    obtain ⟨k, rfl⟩ : ∃ m, k = m + 1 := ⟨k - 1, by omega⟩
    simp only [spec_l19Ok.l0]; rw [if_neg (by omega), In_, List.drop_eq_nil_of_le (by omega)]; simp
  | succ d ih =>
    intro k i hd h0 hk
    obtain ⟨k, rfl⟩ : ∃ m, k = m + 1 := ⟨k - 1, by omega⟩
    simp only [spec_l19Ok.l0]
    rw [if_pos (by omega), if_pos h0, In_, drop_rd l i h0 (by omega), w64 (by omega) (by omega), ih k (i + 1) (by omega) (by omega) (by omega)]
    simp only [Option.bind_some, List.all_cons]
    by_cases c : -1000 ≤ rd l i ∧ rd l i ≤ 1000
    · simp [c]
    · simp [c]
theorem SpecOkS_ (l : List Int) (hl : l.length ≤ 1048576) (k : Nat) (hk : 1048577 ≤ k) : spec_l19Ok.f k l = some (okS l) := by
  unfold spec_l19Ok.f okS
  rw [specOk_l l hl l.length k 0 (by omega) (by omega) (by omega)]
  simp [Bool.and_comm]

/-- The greatest size of a number of a list. -/
def wor (l : List Int) (a : Int) : Int := l.foldl (fun s x => mx s (ab x)) a
theorem wor_says : ∀ (l : List Int) (a : Int), a ≤ wor l a ∧ (∀ x ∈ l, ab x ≤ wor l a) ∧ (wor l a = a ∨ ∃ x ∈ l, wor l a = ab x)
  | [], a => ⟨Int.le_refl _, fun x h => by simp at h, .inl rfl⟩
  | x :: l, a => by
    have h := wor_says l (mx a (ab x))
    have e : wor (x :: l) a = wor l (mx a (ab x)) := rfl
    have hm : (mx a (ab x) = a ∧ ab x ≤ a) ∨ (mx a (ab x) = ab x ∧ a ≤ ab x) := by unfold mx; split <;> omega
    rw [e]
    refine ⟨by omega, fun y hy => ?_, ?_⟩
    · rcases List.mem_cons.1 hy with rfl | hy
      · omega
      · exact h.2.1 y hy
    · rcases h.2.2 with h2 | ⟨y, hy, h2⟩
      · rcases hm with hm | hm
        · left; omega
        · right; exact ⟨x, by simp, by omega⟩
      · right; exact ⟨y, by simp [hy], h2⟩

theorem Size_ (a : Int) (ha : -9223372036854775807 ≤ a) (ha2 : a ≤ 9223372036854775807) : spec_l00Size.f a = some (ab a) := by
  unfold spec_l00Size.f ab
  by_cases h : a < 0
  · rw [if_pos h, if_pos h, w64 (by omega) (by omega)]
  · rw [if_neg h, if_neg h]

theorem Max_ (a b : Int) : spec_l00Max.f a b = some (mx a b) := by
  unfold spec_l00Max.f mx
  by_cases h : a > b
  · rw [if_pos h, if_neg (by omega)]
  · rw [if_neg h]; by_cases h2 : a < b
    · rw [if_pos h2]
    · rw [if_neg h2, show a = b by omega]

theorem specWorst_l (l : List Int) (hl : l.length ≤ 1048576) (hb : ∀ i : Int, 0 ≤ i → i < l.length → -9223372036854775807 ≤ rd l i ∧ rd l i ≤ 9223372036854775807) : ∀ (d k : Nat) (i a : Int), (l.length : Int) - i = d → 0 ≤ i → d < k → spec_l19Worst.l0 k l a i = some (wor (l.drop i.toNat) a) := by
  intro d
  induction d with
  | zero =>
    intro k i a hd h0 hk
    obtain ⟨k, rfl⟩ : ∃ m, k = m + 1 := ⟨k - 1, by omega⟩
    simp only [spec_l19Worst.l0]; rw [if_neg (by omega), List.drop_eq_nil_of_le (by omega)]; rfl
  | succ d ih =>
    intro k i a hd h0 hk
    obtain ⟨k, rfl⟩ : ∃ m, k = m + 1 := ⟨k - 1, by omega⟩
    have hx := hb i h0 (by omega)
    simp only [spec_l19Worst.l0]
    rw [if_pos (by omega), if_pos h0, Size_ _ hx.1 hx.2]; simp only [Option.bind_some]
    rw [Max_]; simp only [Option.bind_some]
    rw [w64 (n := i + 1) (by omega) (by omega), ih k (i + 1) _ (by omega) (by omega) (by omega), drop_rd l i h0 (by omega)]; rfl
theorem SpecWorst_ (l : List Int) (h : okS l = true) (k : Nat) (hk : 30 ≤ k) : spec_l19Worst.f k l = some (wor l 0) := by
  obtain ⟨h1, h2, h3, h4⟩ := okS_says h
  unfold spec_l19Worst.f
  rw [specWorst_l l (by omega) (fun i a b => by have := h4 i a b; omega) l.length k 0 0 (by omega) (by omega) (by omega)]; simp

theorem SpecWorstGap_ (l : List Int) (hl : l.length ≤ 1048576) (k : Nat) (hk : 1048577 ≤ k) : spec_WorstGap.f k l = some (if okS l = true then (wor l 0, 0) else (0, 1)) := by
  unfold spec_WorstGap.f
  rw [SpecOkS_ l hl k hk]; simp only [Option.bind_some]
  cases h : okS l
  · rfl
  · rw [SpecWorst_ l h k (by omega)]; rfl

theorem ImplOkS_ (l : List Int) : impl_ValidSeams.f l = some (okS l) := by
  unfold impl_ValidSeams.f impl_allWithin.f okS
  by_cases h1 : (l.length : Int) ≥ 2
  · by_cases h2 : (l.length : Int) ≤ 24
    · have e : decide (2 ≤ (l.length : Int) ∧ (l.length : Int) ≤ 24) = true := decide_eq_true ⟨h1, h2⟩
      rw [if_pos h1, if_pos h2, e]; simp
    · have e : decide (2 ≤ (l.length : Int) ∧ (l.length : Int) ≤ 24) = false := decide_eq_false (fun x => h2 x.2)
      rw [if_pos h1, if_neg h2, e]; simp
  · have e : decide (2 ≤ (l.length : Int) ∧ (l.length : Int) ≤ 24) = false := decide_eq_false (fun x => h1 x.1)
    rw [if_neg h1, e]; simp

theorem absolute_ (a : Int) (ha : -9223372036854775807 ≤ a) (ha2 : a ≤ 9223372036854775807) : impl_absolute.f a = some (ab a) := by
  unfold impl_absolute.f ab mx
  rw [w64 (n := -a) (by omega) (by omega)]
  by_cases h : a < 0
  · rw [if_pos h, if_pos (by omega)]
  · rw [if_neg h, if_neg (by omega)]

theorem implWorst_l (l : List Int) (hl : l.length ≤ 1048576) (hb : ∀ i : Int, 0 ≤ i → i < l.length → -9223372036854775807 ≤ rd l i ∧ rd l i ≤ 9223372036854775807) : ∀ (d k : Nat) (i a : Int), (l.length : Int) - i = d → 0 ≤ i → d < k → impl_WorstGap.l0 k a l l.length i = some (wor (l.drop i.toNat) a, 0) := by
  intro d
  induction d with
  | zero =>
    intro k i a hd h0 hk
    obtain ⟨k, rfl⟩ : ∃ m, k = m + 1 := ⟨k - 1, by omega⟩
    simp only [impl_WorstGap.l0]; rw [if_neg (by omega), List.drop_eq_nil_of_le (by omega)]; rfl
  | succ d ih =>
    intro k i a hd h0 hk
    obtain ⟨k, rfl⟩ : ∃ m, k = m + 1 := ⟨k - 1, by omega⟩
    have hx := hb i h0 (by omega)
    simp only [impl_WorstGap.l0]
    rw [if_pos (by omega), if_pos h0, if_pos (by omega), absolute_ _ hx.1 hx.2]; simp only [Option.bind_some]
    rw [w64 (n := i + 1) (by omega) (by omega), ih k (i + 1) _ (by omega) (by omega) (by omega), drop_rd l i h0 (by omega)]; rfl
theorem ImplWorstGap_ (l : List Int) (k : Nat) (hk : 30 ≤ k) : impl_WorstGap.f k l = some (if okS l = true then (wor l 0, 0) else (0, 1)) := by
  unfold impl_WorstGap.f
  rw [ImplOkS_ l]; simp only [Option.bind_some]
  cases h : okS l
  · rfl
  · obtain ⟨h1, h2, h3, h4⟩ := okS_says h
    simp only [if_true]
    rw [implWorst_l l (by omega) (fun i a b => by have := h4 i a b; omega) l.length k 0 0 (by omega) (by omega) (by omega)]; simp

theorem toInts_l (l : List Int) (hl : l.length ≤ 1048576) : ∀ (d k : Nat) (i : Int) (a : List Int), (l.length : Int) - i = d → 0 ≤ i → a.length = l.length → (∀ j : Int, 0 ≤ j → j < i → rd a j = rd l j) → d < k → laws_toInt64S.l0 k l a i = some l := by
  intro d
  induction d with
  | zero =>
    intro k i a hd h0 ha hr hk
    obtain ⟨k, rfl⟩ : ∃ m, k = m + 1 := ⟨k - 1, by omega⟩
    simp only [laws_toInt64S.l0]; rw [if_neg (by omega)]
    congr 1
    exact rd_ext a l ha (fun j h1 h2 => hr j h1 (by omega))
  | succ d ih =>
    intro k i a hd h0 ha hr hk
    obtain ⟨k, rfl⟩ : ∃ m, k = m + 1 := ⟨k - 1, by omega⟩
    simp only [laws_toInt64S.l0]
    rw [if_pos (by omega), if_pos h0, if_pos (by omega), w64 (by omega) (by omega)]
    refine ih k (i + 1) _ (by omega) (by omega) (by simpa using ha) (fun j h1 h2 => ?_) (by omega)
    by_cases e : j = i
    · subst e; exact rd_same _ _ _ h0 (by omega)
    · rw [rd_other _ _ _ _ h0 h1 (by omega)]; exact hr j h1 (by omega)
theorem toInts_ (l : List Int) (hl : l.length ≤ 1048576) (k : Nat) (hk : 1048577 ≤ k) : laws_toInt64S.f k l = some l := by
  unfold laws_toInt64S.f
  rw [if_pos (by omega), if_pos (by simp; omega)]
  exact toInts_l l hl l.length k 0 _ (by omega) (by omega) (by simp) (fun j h1 h2 => by omega) (by omega)

theorem eqInts_l (l : List Int) (hl : l.length ≤ 1152921504606846976) : ∀ (d k : Nat) (i : Int), (l.length : Int) - i = d → 0 ≤ i → d < k → laws_eqInt64S.l0 k l l i = some true := by
  intro d
  induction d with
  | zero =>
    intro k i hd h0 hk
    obtain ⟨k, rfl⟩ : ∃ m, k = m + 1 := ⟨k - 1, by omega⟩
    simp only [laws_eqInt64S.l0]; rw [if_neg (by omega)]
  | succ d ih =>
    intro k i hd h0 hk
    obtain ⟨k, rfl⟩ : ∃ m, k = m + 1 := ⟨k - 1, by omega⟩
    simp only [laws_eqInt64S.l0]
    rw [if_pos (by omega), if_pos h0, if_pos (by omega), if_pos trivial, w64 (by omega) (by omega)]
    exact ih k (i + 1) (by omega) (by omega) (by omega)
theorem eqInts_ (l : List Int) (hl : l.length ≤ 1152921504606846976) (k : Nat) (hk : l.length < k) : laws_eqInt64S.f k l l = some true := by
  unfold laws_eqInt64S.f
  rw [if_pos rfl]; exact eqInts_l l hl l.length k 0 (by omega) (by omega) hk

theorem eqI_ (l : List Int) (hl : l.length ≤ 1048576) (k : Nat) (hk : 1048577 ≤ k) : laws_eqInt64S.f k l l = some true := eqInts_ l (by omega) k (by omega)

theorem FnExactWorstGap : laws_FnExactWorstGap.Pure := by
  intro l 
  intros
  refine ⟨1048600, ?_⟩
  unfold laws_FnExactWorstGap.f
  by_cases hb : (l.length : Int) > 1048576
  · rw [if_pos hb]
  have hl : l.length ≤ 1048576 := by omega
  have hT := toInts_ l hl
  have hE := eqI_ l hl
  rw [if_neg hb, hT _ (by omega)]; simp only [Option.bind_some]
  rw [SpecWorstGap_ l hl _ (by omega)]; simp only [Option.bind_some]
  rw [ImplWorstGap_ l _ (by omega)]; simp only [Option.bind_some, if_true, laws_FnExactWorstGap.j0, bne_self_eq_false, Bool.false_eq_true, if_false]
  rw [hT _ (by omega)]; simp only [Option.bind_some]
  rw [hE _ (by omega)]; simp

end Go.Proofs.Ytcgcmnebenllcaa.Pure
