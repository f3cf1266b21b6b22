/- At all drawn gaps and bounds, even gaps have the sum of all gaps and differ by at most 1, and seams over a bound are just those. No condition. -/
import Derived.Test.YtcgcmnebenllcaaQFnEvenGapsx4
import Derived.Test.YtcgcmnebenllcaaBase
namespace Go.Proofs.Ytcgcmnebenllcaa.Pure
open Go Go.RowKit Go.Proofs.Ytcgcmnebenllcaa.QFnEvenGaps Go.Proofs.YtcgcmnebenllcaaW.PrintWords Go.Proofs.YtcgcmnebenllcaaW.PrintLast Go.Proofs.YtcgcmnebenllcaaW.PrintMore Go.Proofs.Ytcgcmnebenllcaa.Base
set_option linter.unusedVariables false
set_option linter.unusedSimpArgs false

theorem rd_mem (l : List Int) (i : Int) (h0 : 0 ≤ i) (h : i < l.length) : rd l i ∈ l := by
  unfold rd
  rw [List.getD_eq_getElem?_getD, List.getElem?_eq_getElem (by omega)]
  exact List.getElem_mem _
theorem u64_range (n : Int) : 0 ≤ IntKind.u64.wrap n ∧ IntKind.u64.wrap n < 18446744073709551616 := by
  have e : IntKind.u64.wrap n = n % 18446744073709551616 := by simp [IntKind.wrap, IntKind.bits, IntKind.signed]
  rw [e]; omega
theorem low_byte (n : Int) : 0 ≤ Go.bits .and .u64 (IntKind.u64.wrap n / 1099511627776) 255 ∧ Go.bits .and .u64 (IntKind.u64.wrap n / 1099511627776) 255 ≤ 255 := by
  have h := u64_range n
  have e : Go.bits .and .u64 (IntKind.u64.wrap n / 1099511627776) 255 = (IntKind.u64.wrap n / 1099511627776) % 256 :=
    Go.bits_mask .u64 64 (by decide) (fun m g0 g1 => by
      have e : IntKind.u64.wrap m = m % 18446744073709551616 := by simp [IntKind.wrap, IntKind.bits, IntKind.signed]
      have : (2 : Int) ^ 64 = 18446744073709551616 := by decide
      rw [e]; omega) 8 (by decide) _ (by omega) (by have : (2 : Int) ^ 64 = 18446744073709551616 := by decide
                                                    omega)
  rw [e]; omega
theorem low_byte_w (n : Int) : 0 ≤ wrap64 (Go.bits .and .u64 (IntKind.u64.wrap n / 1099511627776) 255) ∧ wrap64 (Go.bits .and .u64 (IntKind.u64.wrap n / 1099511627776) 255) ≤ 255 := by
  have h := low_byte n
  rw [w64 (by omega) (by omega)]; exact h
theorem Next_ (l : List Int) (hl : ∀ x ∈ l, 0 ≤ x ∧ x ≤ 255) (a s : Int) (h0 : 0 ≤ a) (h1 : a ≤ 1152921504606846976) : ∃ v s', spec_l00Src_next.f l a s = some (v, a + 1, s') ∧ 0 ≤ v ∧ v ≤ 255 := by
  unfold spec_l00Src_next.f
  have hw : wrap64 (a + 1) = a + 1 := w64 (by omega) (by omega)
  by_cases c : a < (l.length : Int)
  · have hb := hl _ (rd_mem l a h0 c)
    rw [if_pos c, if_pos h0, hw, if_pos (by omega)]
    exact ⟨_, _, rfl, by rw [w64 (by omega) (by omega)]; omega, by rw [w64 (by omega) (by omega)]; omega⟩
  · rw [if_neg c, hw, if_neg (by omega)]
    exact ⟨_, _, rfl, (low_byte_w _).1, (low_byte_w _).2⟩

theorem Pick_ (l : List Int) (hl : ∀ x ∈ l, 0 ≤ x ∧ x ≤ 255) (a s n : Int) (h0 : 0 ≤ a) (h1 : a ≤ 1000000000000) : ∃ v a' s', spec_l00Src_pick.f l a s n = some (v, a', s') ∧ a ≤ a' ∧ a' ≤ a + 2 ∧ 0 ≤ v ∧ v ≤ 65535 ∧ (1 ≤ n → v < n) ∧ (n ≤ 1 → v = 0) := by
  unfold spec_l00Src_pick.f
  by_cases c : n ≤ 1
  · rw [if_pos c]; exact ⟨0, a, s, rfl, by omega, by omega, by omega, by omega, by omega, by omega⟩
  · obtain ⟨v, s', hv, v0, v1⟩ := Next_ l hl a s h0 (by omega)
    rw [if_neg c, hv]; simp only [Option.bind_some]
    by_cases d : n > 200
    · obtain ⟨u, s2, hu, u0, u1⟩ := Next_ l hl (a + 1) s' (by omega) (by omega)
      rw [if_pos d, hu]; simp only [Option.bind_some]
      rw [if_neg (by omega), w64 (n := v * 256) (by omega) (by omega), w64 (n := v * 256 + u) (by omega) (by omega), tmod_eq _ _ (by omega), if_pos (by omega)]
      have g0 := Int.emod_nonneg (v * 256 + u) (b := n) (by omega)
      have g1 := Int.emod_lt_of_pos (v * 256 + u) (b := n) (by omega)
      have g2 := Int.mul_ediv_add_emod (v * 256 + u) n
      have g3 := Int.mul_nonneg (show 0 ≤ n by omega) (Int.ediv_nonneg (show 0 ≤ v * 256 + u by omega) (show 0 ≤ n by omega))
      exact ⟨_, _, _, rfl, by omega, by omega, g0, by omega, fun _ => g1, fun _ => by omega⟩
    · rw [if_neg d, if_neg (by omega), tmod_eq _ _ (by omega), if_pos (by omega)]
      have g0 := Int.emod_nonneg v (b := n) (by omega)
      have g1 := Int.emod_lt_of_pos v (b := n) (by omega)
      exact ⟨_, _, _, rfl, by omega, by omega, g0, by omega, fun _ => g1, fun _ => by omega⟩

def okS (l : List Int) : Bool := decide (2 ≤ (l.length : Int) ∧ (l.length : Int) ≤ 24) && l.all fun x => decide (-1000 ≤ x ∧ x ≤ 1000)
theorem okS_says {l : List Int} (h : okS l = true) : 2 ≤ l.length ∧ l.length ≤ 24 ∧ (∀ x ∈ l, -1000 ≤ x ∧ x ≤ 1000) ∧ ∀ i : Int, 0 ≤ i → i < l.length → -1000 ≤ rd l i ∧ rd l i ≤ 1000 := by
  unfold okS at h
  simp only [Bool.and_eq_true, decide_eq_true_eq, List.all_eq_true] at h
  exact ⟨by omega, by omega, h.2, fun i h0 h1 => h.2 _ (rd_in l i h0 h1)⟩

theorem A2Gaps_l (l0 : List Int) (hl : ∀ x ∈ l0, 0 ≤ x ∧ x ≤ 255) : ∀ (d k : Nat) (a : List Int) (at_ sd : Int), d ≤ 100 → 0 ≤ at_ → at_ + 2 * d ≤ 1000 → a.length + d ≤ 1000 → (∀ x ∈ a, -12 ≤ x ∧ x ≤ 12) → d < k → ∃ g, spec_A2Gaps.l0 k a d l0 at_ sd = some g ∧ g.length = a.length + d ∧ ∀ x ∈ g, -12 ≤ x ∧ x ≤ 12
  | 0, k, a, at_, sd, _, h0, h1, ha, hx, hk => by
    obtain ⟨k, rfl⟩ : ∃ m, k = m + 1 := ⟨k - 1, by omega⟩
    simp only [spec_A2Gaps.l0]; rw [if_neg (by omega)]
    exact ⟨a, rfl, rfl, hx⟩
  | d + 1, k, a, at_, sd, hd, h0, h1, ha, hx, hk => by
    obtain ⟨k, rfl⟩ : ∃ m, k = m + 1 := ⟨k - 1, by omega⟩
    obtain ⟨v, a', s', hv, g1, g2, g3, g4, g5, g6⟩ := Pick_ l0 hl at_ sd 25 h0 (by omega)
    have := g5 (by omega)
    simp only [spec_A2Gaps.l0]
    rw [if_pos (by omega), hv]; simp only [Option.bind_some]
    rw [if_pos (by omega), w64 (n := v - 12) (by omega) (by omega), w64 (by omega) (by omega), show ((d + 1 : Nat) : Int) - 1 = (d : Int) by omega]
    obtain ⟨g, e, el, ex⟩ := A2Gaps_l l0 hl d k (a ++ [v - 12]) a' s' (by omega) (by omega) (by omega) (by simp; omega) (fun x h => by
      rcases List.mem_append.1 h with h | h
      · exact hx x h
      · simp at h; omega) (by omega)
    exact ⟨g, e, by simp at el; omega, ex⟩
theorem A2Gaps_ (l0 : List Int) (hl : ∀ x ∈ l0, 0 ≤ x ∧ x ≤ 255) : ∃ g, (∀ k, 100 ≤ k → spec_A2Gaps.f k l0 = some g) ∧ okS g = true ∧ g.length ≤ 7 ∧ ∀ x ∈ g, -12 ≤ x ∧ x ≤ 12 := by
  obtain ⟨v, a', s', hv, g1, g2, g3, g4, g5, g6⟩ := Pick_ l0 hl 0 0 6 (by omega) (by omega)
  have := g5 (by omega)
  obtain ⟨g, e, el, ex⟩ := A2Gaps_l l0 hl (2 + v).toNat 100 [] a' s' (by omega) (by omega) (by omega) (by simp; omega) (by simp) (by omega)
  simp at el
  refine ⟨g, fun k hk => ?_, ?_, by omega, ex⟩
  · unfold spec_A2Gaps.f spec_l00From.f
    simp only [Option.bind_some]; rw [hv]; simp only [Option.bind_some]
    rw [w64 (by omega) (by omega), show 2 + v = (((2 + v).toNat : Nat) : Int) by omega]
    exact at_rounds (g := fun k => spec_A2Gaps.l0 k [] ((2 + v).toNat : Nat) l0 a' s') (fun k => spec_A2Gaps.mono_l k _ _ _ _ _) hk e
  · unfold okS
    rw [decide_eq_true (show 2 ≤ (g.length : Int) ∧ (g.length : Int) ≤ 24 by omega)]
    simp only [Bool.true_and, List.all_eq_true, decide_eq_true_eq]
    intro x hx; have := ex x hx; omega

/-- Shares of a sum: the greater ones first. -/
def share (s n i : Int) : Int := if i < s - s / n * n then s / n + 1 else s / n
theorem share_div (s n : Int) (h : 1 ≤ n) : 0 ≤ s - s / n * n ∧ s - s / n * n < n := by
  have a := Int.ediv_mul_le s (b := n) (by omega)
  have b := Int.lt_ediv_add_one_mul_self s (b := n) (by omega)
  rw [Int.add_mul, Int.one_mul] at b
  omega

theorem floorDiv_ (a b : Int) (hb : 0 < b) (ha : -4611686018427387904 ≤ a) (ha2 : a ≤ 4611686018427387904) : impl_floorDiv.f a b = some (a / b) := by
  unfold impl_floorDiv.f
  rw [if_neg (by omega)]
  obtain ⟨h1, h2⟩ := ediv_bounds a b 4611686018427387904 hb ha ha2 (by omega)
  have e := floor_eq a b hb
  by_cases c : Int.tmod a b < 0
  · rw [if_pos c] at e ⊢; rw [w64 (n := Int.tdiv a b) (by omega) (by omega), w64 (by omega) (by omega), e]
  · rw [if_neg c] at e ⊢; rw [w64 (by omega) (by omega), e]

theorem shares_l (s n : Int) (hn : 1 ≤ n) (hn2 : n ≤ 100) (hs : -100000 ≤ s) (hs2 : s ≤ 100000) : ∀ (d k : Nat) (i : Int) (a : List Int), n - i = d → 0 ≤ i → (a.length : Int) ≤ i → d < k → impl_shares.l0 k s n a n i = some (a ++ from_ (share s n) i d) := by
  have hb := share_div s n hn
  have hq := ediv_bounds s n 100000 (by omega) (by omega) (by omega) (by omega)
  intro d
  induction d with
  | zero =>
    intro k i a hd h0 ha hk
    obtain ⟨k, rfl⟩ : ∃ m, k = m + 1 := ⟨k - 1, by omega⟩
    simp only [impl_shares.l0]; rw [if_neg (by omega)]; simp [from_]
  | succ d ih =>
    intro k i a hd h0 ha hk
    obtain ⟨k, rfl⟩ : ∃ m, k = m + 1 := ⟨k - 1, by omega⟩
    simp only [impl_shares.l0]
    rw [if_pos (by omega), floorDiv_ _ _ (by omega) (by omega) (by omega)]; simp only [Option.bind_some]
    rw [w64 (n := s / n * n) (by omega) (by omega), w64 (n := s - s / n * n) (by omega) (by omega), w64 (n := s / n + 1) (by omega) (by omega), w64 (n := i + 1) (by omega) (by omega), from_succ]
    by_cases c : i < s - s / n * n
    · rw [if_pos c, if_pos (by omega), ih k (i + 1) _ (by omega) (by omega) (by simp; omega) (by omega)]; simp [share, c]
    · rw [if_neg c, if_pos (by omega), ih k (i + 1) _ (by omega) (by omega) (by simp; omega) (by omega)]; simp [share, c]

theorem ImplOkS_ (l : List Int) : impl_ValidSeams.f l = some (okS l) := by
  unfold impl_ValidSeams.f impl_allWithin.f okS
  by_cases h1 : (l.length : Int) ≥ 2
  · by_cases h2 : (l.length : Int) ≤ 24
    · have e : decide (2 ≤ (l.length : Int) ∧ (l.length : Int) ≤ 24) = true := decide_eq_true ⟨h1, h2⟩
      rw [if_pos h1, if_pos h2, e]; simp
    · have e : decide (2 ≤ (l.length : Int) ∧ (l.length : Int) ≤ 24) = false := decide_eq_false (fun x => h2 x.2)
      rw [if_pos h1, if_neg h2, e]; simp
  · have e : decide (2 ≤ (l.length : Int) ∧ (l.length : Int) ≤ 24) = false := decide_eq_false (fun x => h1 x.1)
    rw [if_neg h1, e]; simp

/-- A sum as the machine reckons it. -/
def wsum (l : List Int) (a : Int) : Int := l.foldl (fun s x => wrap64 (s + x)) a
theorem wsum_is (B : Int) (hB : 0 ≤ B) : ∀ (l : List Int) (a : Int), (∀ x ∈ l, -B ≤ x ∧ x ≤ B) → -9000000000000000000 + B * l.length ≤ a → a + B * l.length ≤ 9000000000000000000 → wsum l a = a + l.sum ∧ -(B * l.length) ≤ l.sum ∧ l.sum ≤ B * l.length
  | [], a, _, _, _ => by simp [wsum]
  | x :: l, a, hx, h1, h2 => by
    have hxb := hx x (by simp)
    have e : B * ((x :: l).length : Int) = B * (l.length : Int) + B := by simp [Int.mul_add]
    have hn : 0 ≤ B * (l.length : Int) := Int.mul_nonneg hB (by omega)
    have ih := wsum_is B hB l (a + x) (fun y hy => hx y (by simp [hy])) (by omega) (by omega)
    refine ⟨?_, ?_, ?_⟩
    · unfold wsum at ih ⊢; rw [List.foldl_cons, w64 (by omega) (by omega), ih.1, List.sum_cons]; omega
    · rw [List.sum_cons]; omega
    · rw [List.sum_cons]; omega

theorem implSum_l (l : List Int) (hl : l.length ≤ 1048576) : ∀ (d k : Nat) (i a : Int), (l.length : Int) - i = d → 0 ≤ i → d < k → impl_sumOf.l0 k a l l.length i = some (wsum (l.drop i.toNat) a) := by
  intro d
  induction d with
  | zero =>
    intro k i a hd h0 hk
    obtain ⟨k, rfl⟩ : ∃ m, k = m + 1 := ⟨k - 1, by omega⟩
    simp only [impl_sumOf.l0]; rw [if_neg (by omega), List.drop_eq_nil_of_le (by omega)]; rfl
  | succ d ih =>
    intro k i a hd h0 hk
    obtain ⟨k, rfl⟩ : ∃ m, k = m + 1 := ⟨k - 1, by omega⟩
    simp only [impl_sumOf.l0]
    rw [if_pos (by omega), if_pos h0, if_pos (by omega), w64 (n := i + 1) (by omega) (by omega), ih k (i + 1) _ (by omega) (by omega) (by omega), drop_rd l i h0 (by omega)]; rfl
theorem ImplSum_ (l : List Int) (hl : l.length ≤ 1048576) (k : Nat) (hk : l.length < k) : impl_sumOf.f k l = some (wsum l 0) := by
  unfold impl_sumOf.f
  rw [implSum_l l hl l.length k 0 0 (by omega) (by omega) hk]; simp

theorem okSum {l : List Int} (h : okS l = true) : wsum l 0 = l.sum ∧ -24000 ≤ l.sum ∧ l.sum ≤ 24000 := by
  obtain ⟨h1, h2, h3, h4⟩ := okS_says h
  obtain ⟨a, b, c⟩ := wsum_is 1000 (by omega) l 0 h3 (by omega) (by omega)
  exact ⟨by omega, by omega, by omega⟩

theorem ImplEven_ (g : List Int) (hl : g.length ≤ 1048576) (k : Nat) (hk : 1048700 ≤ k) : impl_EvenGaps.f k g = some (if okS g = true then (from_ (share g.sum g.length) 0 g.length, 0) else ([], 1)) := by
  unfold impl_EvenGaps.f
  rw [ImplOkS_ g, ImplSum_ g hl k (by omega)]; simp only [Option.bind_some]
  by_cases h : okS g = true
  · obtain ⟨g1, g2, g3, g4⟩ := okS_says h
    obtain ⟨a, b, c⟩ := okSum h
    rw [if_pos h, if_pos h, a]
    unfold impl_shares.f
    rw [shares_l g.sum g.length (by omega) (by omega) (by omega) (by omega) g.length k 0 [] (by omega) (by omega) (by simp) (by omega)]; simp
  · rw [if_neg h, if_neg h]

/-- The places from i on at which a gap is over a bound. -/
def overs (g : List Int) (b : Int) : Nat → Int → List Int
  | 0, _ => []
  | d + 1, i => if ab (rd g i) > b then i :: overs g b d (i + 1) else overs g b d (i + 1)
theorem overs_len (g : List Int) (b : Int) : ∀ (d : Nat) (i : Int), (overs g b d i).length ≤ d
  | 0, _ => Nat.le_refl _
  | d + 1, i => by
    have := overs_len g b d (i + 1)
    simp only [overs]; split
    · simp; omega
    · omega
theorem overs_mem (g : List Int) (b : Int) : ∀ (d : Nat) (i j : Int), j ∈ overs g b d i ↔ i ≤ j ∧ j < i + d ∧ ab (rd g j) > b
  | 0, i, j => by simp [overs]; omega
  | d + 1, i, j => by
    have h := overs_mem g b d (i + 1) j
    simp only [overs]
    by_cases c : ab (rd g i) > b
    · rw [if_pos c, List.mem_cons, h]
      constructor
      · rintro (rfl | ⟨a, b, c⟩)
        · exact ⟨by omega, by omega, c⟩
        · exact ⟨by omega, by omega, c⟩
      · rintro ⟨a, b, c⟩
        by_cases e : j = i
        · exact .inl e
        · exact .inr ⟨by omega, by omega, c⟩
    · rw [if_neg c, h]
      constructor
      · rintro ⟨a, b, c⟩; exact ⟨by omega, by omega, c⟩
      · rintro ⟨a, b, d⟩
        by_cases e : j = i
        · subst e; exact absurd d c
        · exact ⟨by omega, by omega, d⟩

theorem within_ (a b c : Int) : impl_within.f a b c = some (decide (b ≤ a ∧ a ≤ c)) := by
  unfold impl_within.f
  by_cases h : a ≥ b
  · rw [if_pos h]; simp [show b ≤ a from h]
  · rw [if_neg h]; simp [show ¬ b ≤ a from h]

theorem absolute_ (a : Int) (ha : -9223372036854775807 ≤ a) (ha2 : a ≤ 9223372036854775807) : impl_absolute.f a = some (ab a) := by
  unfold impl_absolute.f ab mx
  rw [w64 (n := -a) (by omega) (by omega)]
  by_cases h : a < 0
  · rw [if_pos h, if_pos (by omega)]
  · rw [if_neg h, if_neg (by omega)]

theorem check_ (a b : Bool) : impl_check.f a b = some (if a = true then (if b = true then 0 else 2) else 1) := by
  unfold impl_check.f; cases a <;> cases b <;> rfl

theorem implOver_l (g : List Int) (b : Int) (hg : okS g = true) : ∀ (d k : Nat) (i : Int) (a : List Int), (g.length : Int) - i = d → 0 ≤ i → (a.length : Int) ≤ i → d < k → impl_SeamsOver.l0 k b a g g.length i = some (a ++ overs g b d i, 0) := by
  obtain ⟨g1, g2, g3, g4⟩ := okS_says hg
  intro d
  induction d with
  | zero =>
    intro k i a hd h0 ha hk
    obtain ⟨k, rfl⟩ : ∃ m, k = m + 1 := ⟨k - 1, by omega⟩
    simp only [impl_SeamsOver.l0]; rw [if_neg (by omega)]; simp [overs]
  | succ d ih =>
    intro k i a hd h0 ha hk
    obtain ⟨k, rfl⟩ : ∃ m, k = m + 1 := ⟨k - 1, by omega⟩
    have x1 := g4 i h0 (by omega)
    simp only [impl_SeamsOver.l0]
    rw [if_pos (by omega), if_pos h0, if_pos (by omega), absolute_ _ (by omega) (by omega)]; simp only [Option.bind_some, overs]
    rw [w64 (by omega) (by omega)]
    by_cases c : ab (rd g i) > b
    · rw [if_pos c, if_pos c, if_pos (by omega), ih k (i + 1) _ (by omega) (by omega) (by simp; omega) (by omega)]; simp
    · rw [if_neg c, if_neg c, ih k (i + 1) _ (by omega) (by omega) (by omega) (by omega)]
theorem ImplOver_ (g : List Int) (b : Int) (k : Nat) (hk : 100 ≤ k) : impl_SeamsOver.f k g b = some (if okS g = true then (if 0 ≤ b ∧ b ≤ 1000 then (overs g b g.length 0, 0) else ([], 2)) else ([], 1)) := by
  unfold impl_SeamsOver.f
  rw [ImplOkS_ g, within_]; simp only [Option.bind_some, check_]
  by_cases h : okS g = true
  · obtain ⟨g1, g2, g3, g4⟩ := okS_says h
    by_cases c : 0 ≤ b ∧ b ≤ 1000
    · simp only [h, c, if_true]; rw [implOver_l g b h g.length k 0 [] (by omega) (by omega) (by simp) (by omega)]; simp
    · simp only [h, c, if_true]; simp
  · simp only [if_neg h]; simp

def okW (l : List Int) (a s : Int) : Bool := decide (2 ≤ (l.length : Int) ∧ (l.length : Int) ≤ 24) && l.all (fun x => decide (1 ≤ x ∧ x ≤ 10000)) && decide (1 ≤ a ∧ a ≤ 1000000) && decide (0 ≤ s ∧ s ≤ 1000)
def closeR (l : List Int) (a s : Int) : Int × Int × Int := if okW l a s = true then (a - l.sum - s * l.length, a - l.sum + s * l.length, 0) else (0, 0, 2)
theorem okW_says {l : List Int} {a s : Int} (h : okW l a s = true) : 2 ≤ l.length ∧ l.length ≤ 24 ∧ wsum l 0 = l.sum ∧ -240000 ≤ l.sum ∧ l.sum ≤ 240000 ∧ (1 ≤ a ∧ a ≤ 1000000) ∧ 0 ≤ s ∧ s ≤ 1000 ∧ 0 ≤ s * l.length ∧ s * l.length ≤ 24000 := by
  unfold okW at h
  simp only [Bool.and_eq_true, decide_eq_true_eq, List.all_eq_true] at h
  obtain ⟨⟨⟨h1, h2⟩, h3⟩, h4⟩ := h
  obtain ⟨x, y, z⟩ := wsum_is 10000 (by omega) l 0 (fun x hx => by have := h2 x hx; omega) (by omega) (by omega)
  have p1 : 0 ≤ s * (l.length : Int) := Int.mul_nonneg h4.1 (by omega)
  have p2 : s * (l.length : Int) ≤ 1000 * 24 := Int.mul_le_mul (by omega) (by omega) (by omega) (by omega)
  exact ⟨by omega, by omega, by omega, by omega, by omega, h3, h4.1, h4.2, p1, by omega⟩

theorem ImplClose_ (l : List Int) (a s : Int) (k : Nat) (hk : 30 ≤ k) : impl_ClosingBounds.f k l a s = some (closeR l a s) := by
  unfold impl_ClosingBounds.f closeR impl_allWithin.f
  rw [within_, within_]; simp only [Option.bind_some, decide_eq_true_eq]
  by_cases c1 : 2 ≤ (l.length : Int) ∧ (l.length : Int) ≤ 24
  · rw [if_neg (by omega), if_neg (by omega)]
    by_cases c0 : l.all (fun x => decide (1 ≤ x ∧ x ≤ 10000)) = true
    · by_cases c2 : 1 ≤ a ∧ a ≤ 1000000
      · by_cases c3 : 0 ≤ s ∧ s ≤ 1000
        · have ho : okW l a s = true := by unfold okW; rw [decide_eq_true c1, decide_eq_true c2, decide_eq_true c3, c0]; rfl
          obtain ⟨q1, q2, q3, q4, q5, q6, q7, q8, q9, q10⟩ := okW_says ho
          rw [if_pos c0, if_pos c2, if_pos c3, if_pos ho, ImplSum_ l (by omega) k (by omega), q3]; simp only [Option.bind_some]
          rw [w64 (n := a - l.sum) (by omega) (by omega), w64 (n := s * (l.length : Int)) (by omega) (by omega), w64 (by omega) (by omega), w64 (by omega) (by omega)]
        · have ho : ¬ okW l a s = true := by unfold okW; simp only [Bool.and_eq_true, decide_eq_true_eq]; exact fun x => c3 x.2
          rw [if_pos c0, if_pos c2, if_neg c3, if_neg ho]
      · have ho : ¬ okW l a s = true := by unfold okW; simp only [Bool.and_eq_true, decide_eq_true_eq]; exact fun x => c2 x.1.2
        rw [if_pos c0, if_neg c2, if_neg ho]
    · have ho : ¬ okW l a s = true := by unfold okW; simp only [Bool.and_eq_true]; exact fun x => c0 x.1.1.2
      rw [if_neg c0, if_neg ho]
  · have ho : ¬ okW l a s = true := by unfold okW; simp only [Bool.and_eq_true, decide_eq_true_eq]; exact fun x => c1 x.1.1.1
    rw [if_neg ho]
    by_cases c2 : (l.length : Int) < 2
    · rw [if_pos c2]
    · rw [if_neg c2, if_pos (by omega)]

theorem a2At_ (l : List Int) (hl : ∀ x ∈ l, 0 ≤ x ∧ x ≤ 255) (i n : Int) (h0 : 0 ≤ i) (hn : 1 ≤ n) : ∃ v, laws_a2At.f l i n = some v ∧ 0 ≤ v ∧ v < n := by
  unfold laws_a2At.f
  by_cases c : i ≥ (l.length : Int)
  · rw [if_pos c]; exact ⟨0, rfl, by omega, by omega⟩
  · have hb := hl _ (rd_mem l i h0 (by omega))
    rw [if_neg c, if_neg (by omega), if_pos h0, if_pos (by omega), if_neg (by omega), w64 (by omega) (by omega), tmod_eq _ _ (by omega), if_pos hb.1]
    exact ⟨_, rfl, Int.emod_nonneg _ (by omega), Int.emod_lt_of_pos _ (by omega)⟩

theorem a2Long_ (l0 l1 : List Int) : ∃ b, laws_a2Long.f l0 l1 = some b := by
  unfold laws_a2Long.f; split <;> exact ⟨_, rfl⟩

theorem a2Sum_l (l : List Int) (hl : l.length ≤ 1048576) : ∀ (d k : Nat) (i a : Int), (l.length : Int) - i = d → 0 ≤ i → d < k → laws_a2Sum.l0 k l a i = some (wsum (l.drop i.toNat) a) := by
  intro d
  induction d with
  | zero =>
    intro k i a hd h0 hk
    obtain ⟨k, rfl⟩ : ∃ m, k = m + 1 := ⟨k - 1, by omega⟩
    simp only [laws_a2Sum.l0]; rw [if_neg (by omega), List.drop_eq_nil_of_le (by omega)]; rfl
  | succ d ih =>
    intro k i a hd h0 hk
    obtain ⟨k, rfl⟩ : ∃ m, k = m + 1 := ⟨k - 1, by omega⟩
    simp only [laws_a2Sum.l0]
    rw [if_pos (by omega), if_pos h0, w64 (n := i + 1) (by omega) (by omega), ih k (i + 1) _ (by omega) (by omega) (by omega), drop_rd l i h0 (by omega)]; rfl
theorem a2Sum_ (l : List Int) (hl : l.length ≤ 1048576) (k : Nat) (hk : l.length < k) : laws_a2Sum.f k l = some (wsum l 0) := by
  unfold laws_a2Sum.f
  rw [a2Sum_l l hl l.length k 0 0 (by omega) (by omega) hk]; simp

theorem a2Has_l (l : List Int) (n : Int) (hl : l.length ≤ 1048576) : ∀ (d k : Nat) (i : Int), (l.length : Int) - i = d → 0 ≤ i → d < k → laws_a2Has.l0 k l n i = some (decide (n ∈ l.drop i.toNat)) := by
  intro d
  induction d with
  | zero =>
    intro k i hd h0 hk
    obtain ⟨k, rfl⟩ : ∃ m, k = m + 1 := ⟨k - 1, by omega⟩
    simp only [laws_a2Has.l0]; rw [if_neg (by omega), List.drop_eq_nil_of_le (by omega)]; simp
  | succ d ih =>
    intro k i hd h0 hk
    obtain ⟨k, rfl⟩ : ∃ m, k = m + 1 := ⟨k - 1, by omega⟩
    simp only [laws_a2Has.l0]
    rw [if_pos (by omega), if_pos h0, w64 (by omega) (by omega), ih k (i + 1) (by omega) (by omega) (by omega), drop_rd l i h0 (by omega)]
    by_cases c : rd l i = n
    · rw [if_pos c]; simp [c]
    · rw [if_neg c]; simp [show ¬ n = rd l i from fun h => c h.symm]
theorem a2Has_ (l : List Int) (n : Int) (hl : l.length ≤ 1048576) (k : Nat) (hk : l.length < k) : laws_a2Has.f k l n = some (decide (n ∈ l)) := by
  unfold laws_a2Has.f
  rw [a2Has_l l n hl l.length k 0 (by omega) (by omega) hk]; simp

theorem a2Rises_l (l : List Int) (n : Int) (hl : l.length ≤ 1048576) (hb : ∀ i : Int, 0 ≤ i → i < l.length → 0 ≤ rd l i ∧ rd l i < n) (hr : ∀ i : Int, 0 < i → i < l.length → rd l (i - 1) < rd l i) : ∀ (d k : Nat) (i : Int), (l.length : Int) - i = d → 0 ≤ i → d < k → laws_a2Rises.l0 k l n i = some true := by
  intro d
  induction d with
  | zero =>
    intro k i hd h0 hk
    obtain ⟨k, rfl⟩ : ∃ m, k = m + 1 := ⟨k - 1, by omega⟩
    simp only [laws_a2Rises.l0]; rw [if_neg (by omega)]
  | succ d ih =>
    intro k i hd h0 hk
    obtain ⟨k, rfl⟩ : ∃ m, k = m + 1 := ⟨k - 1, by omega⟩
    have hx := hb i h0 (by omega)
    simp only [laws_a2Rises.l0]
    rw [if_pos (by omega), if_pos h0, if_neg (by omega), if_neg (by omega), w64 (n := i + 1) (by omega) (by omega), ih k (i + 1) (by omega) (by omega) (by omega)]
    by_cases c : i > 0
    · have := hr i c (by omega)
      rw [if_pos c, w64 (by omega) (by omega), if_pos (by omega), if_pos (by omega), if_neg (by omega)]
    · rw [if_neg c]
theorem a2Rises_ (l : List Int) (n : Int) (hl : l.length ≤ 1048576) (hb : ∀ x ∈ l, 0 ≤ x ∧ x < n) (hr : l.Pairwise (· < ·)) (k : Nat) (hk : l.length < k) : laws_a2Rises.f k l n = some true := by
  unfold laws_a2Rises.f
  refine a2Rises_l l n hl (fun i a b => hb _ (rd_in l i a b)) (fun i a b => ?_) l.length k 0 (by omega) (by omega) hk
  have := List.pairwise_iff_getElem.1 hr (i - 1).toNat i.toNat (by omega) (by omega) (by omega)
  unfold rd
  rw [List.getD_eq_getElem?_getD, List.getD_eq_getElem?_getD, List.getElem?_eq_getElem (by omega), List.getElem?_eq_getElem (by omega)]
  exact this

theorem share_sum (s n : Int) : ∀ (d : Nat) (i : Int), (from_ (share s n) i d).sum = d * (s / n) + mn (mx (s - s / n * n - i) 0) d
  | 0, i => by simp [from_, mn, mx]; split <;> split <;> omega
  | d + 1, i => by
    rw [sum_from, share_sum s n d (i + 1)]
    have e : ((d + 1 : Nat) : Int) * (s / n) = (d : Int) * (s / n) + s / n := by rw [Int.natCast_add, Int.add_mul]; simp
    rw [e]
    generalize (d : Int) * (s / n) = q
    unfold share mn mx
    split <;> split <;> split <;> split <;> split <;> omega
theorem share_total (s n : Int) (h : 1 ≤ n) : (from_ (share s n) 0 n.toNat).sum = s := by
  rw [share_sum]
  have hb := share_div s n h
  have e : ((n.toNat : Nat) : Int) = n := by omega
  rw [e, Int.mul_comm n]
  unfold mn mx
  split <;> split <;> omega
theorem share_fall (s n i : Int) : share s n i ≤ share s n (i - 1) := by unfold share; split <;> split <;> omega
theorem share_near (s n i : Int) : share s n 0 - share s n i ≤ 1 := by unfold share; split <;> split <;> omega
theorem share_bounds (s n i B : Int) (h : 1 ≤ n) (h0 : 0 ≤ B) (h1 : -B ≤ s) (h2 : s ≤ B) : -B ≤ share s n i ∧ share s n i ≤ B + 1 := by
  have := ediv_bounds s n B (by omega) h1 h2 h0
  unfold share; split <;> omega

theorem overs_sorted (g : List Int) (b : Int) : ∀ (d : Nat) (i : Int), (overs g b d i).Pairwise (· < ·)
  | 0, _ => List.Pairwise.nil
  | d + 1, i => by
    have h := overs_sorted g b d (i + 1)
    simp only [overs]
    split
    · refine List.Pairwise.cons (fun j hj => ?_) h
      have := (overs_mem g b d (i + 1) j).1 hj; omega
    · exact h

theorem bytes_of {l : List Int} (h : ∀ x ∈ l, (Lit.int .u8 x).wf = true) : ∀ x ∈ l, 0 ≤ x ∧ x ≤ 255 := by
  intro x hx
  simpa [Lit.wf, IntKind.min, IntKind.max, IntKind.signed, IntKind.bits] using h x hx

theorem Even_l1 (l1 g : List Int) (w1 : ∀ x ∈ l1, 0 ≤ x ∧ x ≤ 255) (hg : okS g = true) (hx : ∀ x ∈ g, -12 ≤ x ∧ x ≤ 12) (h7 : g.length ≤ 7) : ∀ (d k : Nat) (i : Int), (g.length : Int) - i = d → 0 ≤ i → d + 100 < k → laws_FnEvenGaps.l1 k l1 g (from_ (fun j => 200 + rd g j) 0 i.toNat) i = some true := by
  obtain ⟨g1, g2, g3, g4⟩ := okS_says hg
  intro d
  induction d with
  | zero =>
    intro k i hd h0 hk
    obtain ⟨k, rfl⟩ : ∃ m, k = m + 1 := ⟨k - 1, by omega⟩
    have ei : i = g.length := by omega
    subst ei
    simp only [laws_FnEvenGaps.l1]; rw [if_neg (by omega)]
    obtain ⟨s, hs, s0, s1⟩ := a2At_ l1 w1 1 9 (by omega) (by omega)
    generalize hw : from_ (fun j => 200 + rd g j) 0 ((g.length : Int)).toNat = w
    have wl : w.length = g.length := by rw [← hw, from_len]; omega
    have hwx : ∀ x ∈ w, -212 ≤ x ∧ x ≤ 212 := by
      intro x h
      rw [← hw] at h
      unfold from_ at h
      simp only [List.mem_map, List.mem_range] at h
      obtain ⟨j, hj, rfl⟩ := h
      have := hx _ (rd_in g (0 + (j : Int)) (by omega) (by omega)); omega
    obtain ⟨q1, q2, q3⟩ := wsum_is 212 (by omega) w 0 hwx (by omega) (by omega)
    obtain ⟨p1, p2, p3⟩ := wsum_is 12 (by omega) g 0 hx (by omega) (by omega)
    have hsum : w.sum = 200 * g.length + g.sum := by
      have key : ∀ (d : Nat) (i : Int), (from_ (fun j => 200 + rd g j) i d).sum = 200 * d + (from_ (rd g) i d).sum := by
        intro d
        induction d with
        | zero => intro i; simp [from_]
        | succ d ih => intro i; rw [sum_from, sum_from, ih]; omega
      rw [← hw, key, Int.toNat_natCast, from_rd]
    rw [hs]; simp only [Option.bind_some]
    rw [a2Sum_ w (by omega) k (by omega), a2Sum_ g (by omega) k (by omega)]; simp only [Option.bind_some]
    have ho : okW w (wrap64 (wsum w 0 + wsum g 0)) s = true := by
      have hall : w.all (fun x => decide (1 ≤ x ∧ x ≤ 10000)) = true := by
        rw [List.all_eq_true]; intro x h
        rw [← hw] at h
        unfold from_ at h
        simp only [List.mem_map, List.mem_range] at h
        obtain ⟨j, hj, rfl⟩ := h
        have := hx _ (rd_in g (0 + (j : Int)) (by omega) (by omega))
        exact decide_eq_true (by omega)
      rw [w64 (by omega) (by omega)]
      unfold okW
      rw [decide_eq_true (show 2 ≤ (w.length : Int) ∧ (w.length : Int) ≤ 24 by omega), decide_eq_true (show 1 ≤ wsum w 0 + wsum g 0 ∧ wsum w 0 + wsum g 0 ≤ 1000000 by omega), decide_eq_true (show 0 ≤ s ∧ s ≤ 1000 by omega), hall]; rfl
    obtain ⟨o1, o2, o3, o4, o5, o6, o7, o8, o9, o10⟩ := okW_says ho
    rw [ImplClose_ w _ s k (by omega)]; simp only [Option.bind_some]
    unfold closeR
    rw [if_pos ho]
    simp only [if_true]
    rw [w64 (n := wsum w 0 + wsum g 0) (by omega) (by omega), wl] at *
    have e2 : wsum g 0 = g.sum := by omega
    have e3 : wsum w 0 = w.sum := by omega
    rw [e2, e3] at *
    rw [w64 (n := w.sum + g.sum - w.sum - s * (g.length : Int) + (w.sum + g.sum - w.sum + s * (g.length : Int))) (by omega) (by omega), w64 (n := 2 * g.sum) (by omega) (by omega), if_pos (by omega), w64 (n := w.sum + g.sum - w.sum + s * (g.length : Int) - (w.sum + g.sum - w.sum - s * (g.length : Int))) (by omega) (by omega), w64 (n := 2 * s) (by omega) (by omega)]
    have e4 : 2 * s * (g.length : Int) = 2 * (s * (g.length : Int)) := by rw [Int.mul_assoc]
    rw [w64 (n := 2 * s * (g.length : Int)) (by omega) (by omega), e4]
    congr 1
    rw [beq_iff_eq]; omega
  | succ d ih =>
    intro k i hd h0 hk
    obtain ⟨k, rfl⟩ : ∃ m, k = m + 1 := ⟨k - 1, by omega⟩
    have hb := g4 i h0 (by omega)
    simp only [laws_FnEvenGaps.l1]
    rw [if_pos (by omega), if_pos h0, if_pos (by rw [from_len]; omega), w64 (n := 200 + rd g i) (by omega) (by omega), w64 (n := i + 1) (by omega) (by omega)]
    have e : from_ (fun j => 200 + rd g j) 0 i.toNat ++ [200 + rd g i] = from_ (fun j => 200 + rd g j) 0 (i + 1).toNat := by
      unfold from_
      rw [show (i + 1).toNat = i.toNat + 1 by omega, List.range_succ, List.map_append]
      simp [show ((i.toNat : Nat) : Int) = i by omega]
    rw [e]
    exact ih k (i + 1) (by omega) (by omega) (by omega)

theorem Even_l0 (l1 g : List Int) (w1 : ∀ x ∈ l1, 0 ≤ x ∧ x ≤ 255) (hg : okS g = true) (hx : ∀ x ∈ g, -12 ≤ x ∧ x ≤ 12) (h7 : g.length ≤ 7) (b : Int) : ∀ (d k : Nat) (i : Int), (g.length : Int) - i = d → 0 ≤ i → d + 200 < k → laws_FnEvenGaps.l0 k l1 g (from_ (share g.sum g.length) 0 g.length) b (overs g b g.length 0) i = some true := by
  obtain ⟨g1, g2, g3, g4⟩ := okS_says hg
  obtain ⟨_, s1, s2⟩ := okSum hg
  intro d
  induction d with
  | zero =>
    intro k i hd h0 hk
    obtain ⟨k, rfl⟩ : ∃ m, k = m + 1 := ⟨k - 1, by omega⟩
    simp only [laws_FnEvenGaps.l0]; rw [if_neg (by omega)]
    exact Even_l1 l1 g w1 hg hx h7 g.length k 0 (by omega) (by omega) (by omega)
  | succ d ih =>
    intro k i hd h0 hk
    obtain ⟨k, rfl⟩ : ∃ m, k = m + 1 := ⟨k - 1, by omega⟩
    have hb := g4 i h0 (by omega)
    have ol := overs_len g b g.length 0
    simp only [laws_FnEvenGaps.l0]
    rw [if_pos (by omega), a2Has_ _ i (by omega) k (by omega)]; simp only [Option.bind_some]
    have hm : mx (rd g i) (wrap64 (-(rd g i))) = ab (rd g i) := by
      rw [w64 (by omega) (by omega)]; unfold mx ab; split <;> split <;> omega
    have hh : (decide (i ∈ overs g b g.length 0) != decide (ab (rd g i) > b)) = false := by
      have := overs_mem g b g.length 0 i
      by_cases c : ab (rd g i) > b
      · have h : i ∈ overs g b g.length 0 := this.2 ⟨h0, by omega, c⟩
        simp [c, h]
      · have h : ¬ i ∈ overs g b g.length 0 := fun h => c (this.1 h).2.2
        simp [c, h]
    rw [if_pos h0, hm, hh, if_neg (by simp), w64 (n := i + 1) (by omega) (by omega)]
    by_cases c : i > 0
    · have fl : ((from_ (share g.sum g.length) 0 g.length).length : Int) = g.length := by rw [from_len]
      have b0 := share_bounds g.sum g.length 0 24000 (by omega) (by omega) (by omega) (by omega)
      have b1 := share_bounds g.sum g.length i 24000 (by omega) (by omega) (by omega) (by omega)
      have f1 := share_fall g.sum g.length i
      have f2 := share_near g.sum g.length i
      rw [if_pos c, fl, if_pos (by omega), w64 (n := i - 1) (by omega) (by omega), if_pos (by omega), if_pos (by omega), rd_from _ _ i h0 (by omega), rd_from _ _ (i - 1) (by omega) (by omega), if_neg (by omega), if_pos (by omega), rd_from _ _ 0 (by omega) (by omega), w64 (by omega) (by omega), if_neg (by omega)]
      exact ih k (i + 1) (by omega) (by omega) (by omega)
    · rw [if_neg c]
      exact ih k (i + 1) (by omega) (by omega) (by omega)

theorem FnEvenGaps : laws_FnEvenGaps.Pure := by
  intro l0 l1 _ _ w0 _ _ w1
  have w0 := bytes_of w0
  have w1 := bytes_of w1
  refine ⟨1048800, ?_⟩
  unfold laws_FnEvenGaps.f
  obtain ⟨b, hb⟩ := a2Long_ l0 l1
  rw [hb]; simp only [Option.bind_some]
  cases b with
  | true => simp
  | false =>
    simp only [Bool.false_eq_true, if_false]
    obtain ⟨g, hg, ok, h7, hx⟩ := A2Gaps_ l0 w0
    obtain ⟨t, ht, t0, t1⟩ := a2At_ l1 w1 0 12 (by omega) (by omega)
    obtain ⟨g1, g2, g3, g4⟩ := okS_says ok
    obtain ⟨q1, q2, q3⟩ := okSum ok
    rw [hg _ (by omega)]; simp only [Option.bind_some]
    rw [ImplEven_ g (by omega) _ (by omega), if_pos ok]; simp only [Option.bind_some]
    rw [ht]; simp only [Option.bind_some]
    rw [ImplOver_ g t _ (by omega), if_pos ok, if_pos (by omega)]; simp only [Option.bind_some, if_true, from_len]
    have hxs : ∀ x ∈ from_ (share g.sum g.length) 0 g.length, -24001 ≤ x ∧ x ≤ 24001 := by
      intro x h
      unfold from_ at h
      simp only [List.mem_map, List.mem_range] at h
      obtain ⟨j, hj, rfl⟩ := h
      have := share_bounds g.sum g.length (0 + (j : Int)) 24000 (by omega) (by omega) (by omega) (by omega); omega
    have fl : (from_ (share g.sum g.length) 0 g.length).length = g.length := from_len _ _ _
    obtain ⟨p1, _, _⟩ := wsum_is 24001 (by omega) (from_ (share g.sum g.length) 0 g.length) 0 hxs (by omega) (by omega)
    have hst : (from_ (share g.sum g.length) 0 g.length).sum = g.sum := by
      have := share_total g.sum g.length (by omega)
      rw [Int.toNat_natCast] at this; exact this
    have ol := overs_len g t g.length 0
    rw [a2Sum_ _ (by omega) _ (by omega), a2Sum_ g (by omega) _ (by omega)]; simp only [Option.bind_some]
    rw [if_pos (by omega), a2Rises_ _ _ (by omega) (fun x h => by have := (overs_mem g t g.length 0 x).1 h; omega) (overs_sorted g t g.length 0) _ (by omega)]; simp only [Option.bind_some, laws_FnEvenGaps.j0]
    rw [if_neg (by simp)]
    exact Even_l0 l1 g w1 ok hx h7 t g.length _ 0 (by omega) (by omega) (by omega)

end Go.Proofs.Ytcgcmnebenllcaa.Pure
