/- For all states the program's ShareNotOriginal answers as the reference's does. No condition. -/
import Derived.Test.YtfajacoagaamlaaQFnExactShareNotOriginalx3
import Derived.Test.YtfajacoagaamlaaBase
namespace Go.Proofs.Ytfajacoagaamlaa.Pure
open Go Go.RowKit Go.Proofs.Ytfajacoagaamlaa.QFnExactShareNotOriginal Go.Proofs.YtfajacoagaamlaaW.PrintWords Go.Proofs.YtfajacoagaamlaaW.PrintLast Go.Proofs.YtfajacoagaamlaaW.PrintMore Go.Proofs.Ytfajacoagaamlaa.Base
set_option linter.unusedVariables false
set_option linter.unusedSimpArgs false

theorem In_ (a b c : Int) : spec_l00In.f a b c = some (decide (b ≤ a ∧ a ≤ c)) := by
  unfold spec_l00In.f
  by_cases h : a ≥ b
  · rw [if_pos h]; simp [show b ≤ a from h]
  · rw [if_neg h]; simp [show ¬ b ≤ a from h]

def okT (l : List Int) : Bool := decide ((l.length : Int) ≤ 40) && l.all fun x => decide (0 ≤ x ∧ x ≤ 3)
theorem okT_says {l : List Int} (h : okT l = true) : l.length ≤ 40 ∧ (∀ x ∈ l, 0 ≤ x ∧ x ≤ 3) ∧ ∀ i : Int, 0 ≤ i → i < l.length → 0 ≤ rd l i ∧ rd l i ≤ 3 := by
  unfold okT at h
  simp only [Bool.and_eq_true, decide_eq_true_eq, List.all_eq_true] at h
  exact ⟨by omega, h.2, fun i h0 h1 => h.2 _ (rd_in l i h0 h1)⟩

theorem specOkT_l (l : List Int) (hl : l.length ≤ 1048576) : ∀ (d k : Nat) (i : Int), (l.length : Int) - i = d → 0 ≤ i → d < k → spec_l22Ok.l0 k l i = some ((l.drop i.toNat).all (fun x => decide (0 ≤ x ∧ x ≤ 3)) && decide ((l.length : Int) ≤ 40)) := by
  intro d
  induction d with
  | zero =>
    intro k i hd h0 hk
    obtain ⟨k, rfl⟩ : ∃ m, k = m + 1 := ⟨k - 1, by omega⟩
    simp only [spec_l22Ok.l0]; rw [if_neg (by omega), List.drop_eq_nil_of_le (by omega)]; simp
  | succ d ih =>
    intro k i hd h0 hk
    obtain ⟨k, rfl⟩ : ∃ m, k = m + 1 := ⟨k - 1, by omega⟩
    simp only [spec_l22Ok.l0]
    rw [if_pos (by omega), if_pos h0, In_, drop_rd l i h0 (by omega), w64 (by omega) (by omega), ih k (i + 1) (by omega) (by omega) (by omega)]
    simp only [Option.bind_some, List.all_cons]
    by_cases c : 0 ≤ rd l i ∧ rd l i ≤ 3
    · simp [c]
    · simp [c]
theorem SpecOkT_ (l : List Int) (hl : l.length ≤ 1048576) (k : Nat) (hk : l.length < k) : spec_l22Ok.f k l = some (okT l) := by
  unfold spec_l22Ok.f okT
  rw [specOkT_l l hl l.length k 0 (by omega) (by omega) hk]
  simp [Bool.and_comm]

/-- How often each of four numbers stands in a list. -/
def cnt4 (l : List Int) : List Int := from_ (fun v => ((l.count v : Nat) : Int)) 0 4
theorem rd_cnt4 (l : List Int) (v : Int) (h0 : 0 ≤ v) (h : v < 4) : rd (cnt4 l) v = (l.count v : Nat) := by
  unfold cnt4; rw [rd_from _ _ _ h0 (by omega)]
theorem cnt4_len (l : List Int) : (cnt4 l).length = 4 := by unfold cnt4; rw [from_len]
theorem cnt4_step (l : List Int) (x : Int) (h0 : 0 ≤ x) (h : x ≤ 3) : (cnt4 l).set x.toNat (rd (cnt4 l) x + 1) = cnt4 (l ++ [x]) := by
  apply rd_ext
  · rw [List.length_set, cnt4_len, cnt4_len]
  · intro j j0 j1
    rw [cnt4_len] at j1
    rw [rd_cnt4 (l ++ [x]) j j0 (by omega), List.count_append]
    by_cases e : j = x
    · subst e
      rw [rd_same _ _ _ h0 (by rw [cnt4_len]; omega), rd_cnt4 l j j0 (by omega)]; simp
    · rw [rd_other _ _ _ _ h0 j0 (by omega), rd_cnt4 l j j0 (by omega)]; simp [show ¬ x = j by omega]
theorem take_rd (l : List Int) (i : Int) (h0 : 0 ≤ i) (h : i < l.length) : l.take (i + 1).toNat = l.take i.toNat ++ [rd l i] := by
  rw [show (i + 1).toNat = i.toNat + 1 by omega, List.take_succ_eq_append_getElem (by omega)]
  unfold rd
  rw [List.getD_eq_getElem?_getD, List.getElem?_eq_getElem (by omega)]; rfl
theorem cnt4_nil : List.replicate 4 (0 : Int) = cnt4 [] := by decide

theorem specCounts_l (g : List Int) (hg : okT g = true) : ∀ (d k : Nat) (i : Int), (g.length : Int) - i = d → 0 ≤ i → d < k → spec_l22Counts.l0 k g (cnt4 (g.take i.toNat)) i = some (cnt4 g) := by
  obtain ⟨g1, g2, g3⟩ := okT_says hg
  intro d
  induction d with
  | zero =>
    intro k i hd h0 hk
    obtain ⟨k, rfl⟩ : ∃ m, k = m + 1 := ⟨k - 1, by omega⟩
    simp only [spec_l22Counts.l0]; rw [if_neg (by omega), List.take_of_length_le (by omega)]
  | succ d ih =>
    intro k i hd h0 hk
    obtain ⟨k, rfl⟩ : ∃ m, k = m + 1 := ⟨k - 1, by omega⟩
    have hx := g3 i h0 (by omega)
    have hc : ((List.count (rd g i) (g.take i.toNat) : Nat) : Int) ≤ 40 := by
      have := List.count_le_length (a := rd g i) (l := g.take i.toNat)
      have := List.length_take_le i.toNat g
      have : (g.take i.toNat).length ≤ g.length := by rw [List.length_take]; omega
      omega
    simp only [spec_l22Counts.l0]
    rw [if_pos (by omega), if_pos h0, if_pos hx.1, if_pos (by rw [cnt4_len]; omega), w64 (n := i + 1) (by omega) (by omega), w64 (n := rd (cnt4 (g.take i.toNat)) (rd g i) + 1) (by rw [rd_cnt4 _ _ hx.1 (by omega)]; omega) (by rw [rd_cnt4 _ _ hx.1 (by omega)]; omega), cnt4_step _ _ hx.1 hx.2, ← take_rd g i h0 (by omega)]
    exact ih k (i + 1) (by omega) (by omega) (by omega)
theorem SpecCounts_ (g : List Int) (hg : okT g = true) (k : Nat) (hk : 50 ≤ k) : spec_l22Counts.f k g = some (cnt4 g) := by
  have := okT_says hg
  unfold spec_l22Counts.f
  rw [if_pos (by omega), cnt4_nil]
  exact specCounts_l g hg g.length k 0 (by omega) (by omega) (by omega)

theorem gcd_l : ∀ (n k : Nat) (a b : Int), 0 ≤ a → 0 ≤ b → b ≤ n → n < k → ∃ g, spec_l00Gcd.l0 k a b = some g ∧ 0 ≤ g ∧ g ∣ a ∧ g ∣ b ∧ (0 < a ∨ 0 < b → 0 < g)
  | n, k, a, b, ha, hb, hn, hk => by
    obtain ⟨k, rfl⟩ : ∃ m, k = m + 1 := ⟨k - 1, by omega⟩
    simp only [spec_l00Gcd.l0]
    by_cases c : b = 0
    · rw [if_pos c]; subst c; exact ⟨a, rfl, ha, Int.dvd_refl a, Int.dvd_zero a, fun h => by omega⟩
    · rw [if_neg c, tmod_eq _ _ (by omega), if_pos ha]
      have h0 := Int.emod_nonneg a (b := b) c
      have h1 := Int.emod_lt_of_pos a (b := b) (by omega)
      obtain ⟨n, rfl⟩ : ∃ m, n = m + 1 := ⟨n - 1, by omega⟩
      obtain ⟨g, hg, g0, g1, g2, g3⟩ := gcd_l n k b (a % b) hb h0 (by omega) (by omega)
      refine ⟨g, hg, g0, ?_, g1, fun _ => g3 (.inl (by omega))⟩
      have e := Int.mul_ediv_add_emod a b
      rw [← e]
      exact Int.dvd_add (Int.dvd_trans g1 (Int.dvd_mul_right b _)) g2

theorem Size_ (a : Int) (ha : -9223372036854775807 ≤ a) (ha2 : a ≤ 9223372036854775807) : spec_l00Size.f a = some (ab a) := by
  unfold spec_l00Size.f ab
  by_cases h : a < 0
  · rw [if_pos h, if_pos h, w64 (by omega) (by omega)]
  · rw [if_neg h, if_neg h]

/-- A fraction in lowest terms. -/
theorem SpecMake_ (n d : Int) (hn : 0 ≤ n) (hd : 0 < d) (hn2 : n ≤ 100) (hd2 : d ≤ 100) : ∃ g, 0 < g ∧ g ∣ n ∧ g ∣ d ∧ ∀ k, 200 ≤ k → spec_l02Make.f k n d = some (n / g, d / g) := by
  obtain ⟨g, hg, g0, g1, g2, g3⟩ := gcd_l 100 101 n d hn (by omega) (by omega) (by omega)
  refine ⟨g, g3 (.inr hd), g1, g2, fun k hk => ?_⟩
  have hg' : spec_l00Gcd.f k n d = some g := at_rounds (g := fun k => spec_l00Gcd.l0 k n d) (fun k => spec_l00Gcd.mono_l k _ _) (by omega : 101 ≤ k) hg
  unfold spec_l02Make.f
  have b1 := ediv_bounds n g 100 (g3 (.inr hd)) (by omega) (by omega) (by omega)
  have b2 := ediv_bounds d g 100 (g3 (.inr hd)) (by omega) (by omega) (by omega)
  rw [Size_ _ (by omega) (by omega)]; simp only [Option.bind_some]
  rw [show ab n = n by unfold ab; rw [if_neg (by omega)], hg']; simp only [Option.bind_some]
  rw [if_neg (by have := g3 (.inr hd); omega), Int.tdiv_eq_ediv_of_nonneg hn, Int.tdiv_eq_ediv_of_nonneg (by omega), w64 (by omega) (by omega), w64 (by omega) (by omega)]

/-- The places from i on whose number is not 0. -/
def nors (g : List Int) : Nat → Int → List Int
  | 0, _ => []
  | d + 1, i => if rd g i = 0 then nors g d (i + 1) else i :: nors g d (i + 1)
theorem nors_len (g : List Int) : ∀ (d : Nat) (i : Int), (nors g d i).length ≤ d
  | 0, _ => Nat.le_refl _
  | d + 1, i => by
    have := nors_len g d (i + 1)
    simp only [nors]; split
    · omega
    · simp; omega
theorem nors_count (g : List Int) : ∀ (d : Nat) (i : Int), (g.length : Int) - i = d → 0 ≤ i → ((nors g d i).length : Int) = d - ((g.drop i.toNat).count 0 : Nat)
  | 0, i, hd, h0 => by simp [nors, List.drop_eq_nil_of_le (show g.length ≤ i.toNat by omega)]
  | d + 1, i, hd, h0 => by
    have ih := nors_count g d (i + 1) (by omega) (by omega)
    rw [drop_rd g i h0 (by omega), List.count_cons]
    simp only [nors]
    by_cases c : rd g i = 0
    · rw [if_pos c]; simp [c]; omega
    · rw [if_neg c]; simp [c]; omega
theorem nors_mem (g : List Int) : ∀ (d : Nat) (i j : Int), j ∈ nors g d i ↔ i ≤ j ∧ j < i + d ∧ rd g j ≠ 0
  | 0, i, j => by simp [nors]; omega
  | d + 1, i, j => by
    have h := nors_mem g d (i + 1) j
    simp only [nors]
    by_cases c : rd g i = 0
    · rw [if_pos c, h]
      constructor
      · rintro ⟨a, b, c⟩; exact ⟨by omega, by omega, c⟩
      · rintro ⟨a, b, d⟩
        by_cases e : j = i
        · subst e; exact absurd c d
        · exact ⟨by omega, by omega, d⟩
    · rw [if_neg c, List.mem_cons, h]
      constructor
      · rintro (rfl | ⟨a, b, c⟩)
        · exact ⟨by omega, by omega, c⟩
        · exact ⟨by omega, by omega, c⟩
      · rintro ⟨a, b, c⟩
        by_cases e : j = i
        · exact .inl e
        · exact .inr ⟨by omega, by omega, c⟩

theorem share_num (g : List Int) (h : okT g = true) : ((g.length : Int) - rd (cnt4 g) 0) = (nors g g.length 0).length := by
  rw [rd_cnt4 g 0 (by omega) (by omega), nors_count g g.length 0 (by omega) (by omega)]; simp
theorem SpecShare_ (g : List Int) (hl : g.length ≤ 1048576) : ∃ r, (∀ k, 1048700 ≤ k → spec_ShareNotOriginal.f k g = some r) ∧ (okT g = true → 0 < g.length → ∃ q, 0 < q ∧ q ∣ ((nors g g.length 0).length : Int) ∧ q ∣ (g.length : Int) ∧ r = (((nors g g.length 0).length : Int) / q, (g.length : Int) / q, 0)) ∧ (r.2.2 = 0 → okT g = true ∧ 0 < g.length) := by
  by_cases h : okT g = true
  · obtain ⟨g1, g2, g3⟩ := okT_says h
    by_cases z : (g.length : Int) = 0
    · refine ⟨(0, 0, 3), fun k hk => ?_, fun _ hp => by omega, fun h => by simp at h⟩
      unfold spec_ShareNotOriginal.f
      rw [SpecOkT_ g hl k (by omega)]; simp only [Option.bind_some]
      rw [if_pos h, if_pos z]
    · have hb := nors_len g g.length 0
      obtain ⟨q, q0, q1, q2, q3⟩ := SpecMake_ ((nors g g.length 0).length) g.length (by omega) (by omega) (by omega) (by omega)
      refine ⟨_, fun k hk => ?_, fun _ _ => ⟨q, q0, q1, q2, rfl⟩, fun _ => ⟨h, by omega⟩⟩
      unfold spec_ShareNotOriginal.f
      rw [SpecOkT_ g hl k (by omega)]; simp only [Option.bind_some]
      rw [if_pos h, if_neg z, SpecCounts_ g h k (by omega)]; simp only [Option.bind_some]
      rw [if_pos (by rw [cnt4_len]; omega), share_num g h, w64 (by omega) (by omega), q3 k (by omega)]; rfl
  · refine ⟨(0, 0, 1), fun k hk => ?_, fun h2 => absurd h2 h, fun h => by simp at h⟩
    unfold spec_ShareNotOriginal.f
    rw [SpecOkT_ g hl k (by omega)]; simp only [Option.bind_some]
    rw [if_neg h]

theorem ImplOkT_ (l : List Int) : impl_ValidStates.f l = some (okT l) := by
  unfold impl_ValidStates.f impl_allWithin.f okT
  by_cases h2 : (l.length : Int) ≤ 40
  · rw [if_pos h2, decide_eq_true h2]; simp
  · rw [if_neg h2, decide_eq_false h2]; simp

theorem implNors_l (g : List Int) (hg : g.length ≤ 40) : ∀ (d k : Nat) (i : Int) (a : List Int), (g.length : Int) - i = d → 0 ≤ i → (a.length : Int) ≤ i → d < k → impl_notOriginal.l0 k a g g.length i = some (a ++ nors g d i) := by
  intro d
  induction d with
  | zero =>
    intro k i a hd h0 ha hk
    obtain ⟨k, rfl⟩ : ∃ m, k = m + 1 := ⟨k - 1, by omega⟩
    simp only [impl_notOriginal.l0]; rw [if_neg (by omega)]; simp [nors]
  | succ d ih =>
    intro k i a hd h0 ha hk
    obtain ⟨k, rfl⟩ : ∃ m, k = m + 1 := ⟨k - 1, by omega⟩
    simp only [impl_notOriginal.l0, nors]
    rw [if_pos (by omega), if_pos h0, if_pos (by omega), w64 (by omega) (by omega)]
    by_cases c : rd g i = 0
    · rw [if_pos c, if_pos c, ih k (i + 1) _ (by omega) (by omega) (by omega) (by omega)]
    · rw [if_neg c, if_neg c, if_pos (by omega), ih k (i + 1) _ (by omega) (by omega) (by simp; omega) (by omega)]; simp
theorem implNors_ (g : List Int) (hg : g.length ≤ 40) (k : Nat) (hk : 50 ≤ k) : impl_notOriginal.f k g = some (nors g g.length 0) := by
  unfold impl_notOriginal.f
  rw [implNors_l g hg g.length k 0 [] (by omega) (by omega) (by simp) (by omega)]; simp

theorem absolute_ (a : Int) (ha : -9223372036854775807 ≤ a) (ha2 : a ≤ 9223372036854775807) : impl_absolute.f a = some (ab a) := by
  unfold impl_absolute.f ab mx
  rw [w64 (n := -a) (by omega) (by omega)]
  by_cases h : a < 0
  · rw [if_pos h, if_pos (by omega)]
  · rw [if_neg h, if_neg (by omega)]

theorem implFraction_l : ∀ (k : Nat) (x y a b : Int), impl_fraction.l0 k x y a b = (spec_l00Gcd.l0 k a b).bind fun g => if g = 0 then none else some (wrap64 (Int.tdiv x g), wrap64 (Int.tdiv y g))
  | 0, _, _, _, _ => rfl
  | k + 1, x, y, a, b => by
    simp only [impl_fraction.l0, spec_l00Gcd.l0]
    by_cases c : b = 0
    · rw [if_pos c, if_pos c]; rfl
    · rw [if_neg c, if_neg c, implFraction_l k]
theorem ImplFraction_ (k : Nat) (n d : Int) (hn : 0 ≤ n) (hn2 : n ≤ 100) : impl_fraction.f k n d = (spec_l00Gcd.f k n d).bind fun g => if g = 0 then none else some (wrap64 (Int.tdiv n g), wrap64 (Int.tdiv d g)) := by
  unfold impl_fraction.f
  rw [absolute_ _ (by omega) (by omega)]; simp only [Option.bind_some]
  rw [show ab n = n by unfold ab; rw [if_neg (by omega)], implFraction_l]; rfl

theorem ImplShare_ (g : List Int) (hl : g.length ≤ 1048576) (k : Nat) (hk : 1048700 ≤ k) : impl_ShareNotOriginal.f k g = spec_ShareNotOriginal.f k g := by
  unfold impl_ShareNotOriginal.f spec_ShareNotOriginal.f
  rw [ImplOkT_ g, SpecOkT_ g hl k (by omega)]; simp only [Option.bind_some]
  by_cases h : okT g = true
  · obtain ⟨g1, g2, g3⟩ := okT_says h
    rw [if_pos h, if_pos h]
    by_cases z : (g.length : Int) = 0
    · rw [if_pos z, if_pos z]
    · have hb := nors_len g g.length 0
      rw [if_neg z, if_neg z, implNors_ g (by omega) k (by omega), SpecCounts_ g h k (by omega)]; simp only [Option.bind_some]
      rw [if_pos (by rw [cnt4_len]; omega), share_num g h, w64 (n := ((nors g g.length 0).length : Int)) (by omega) (by omega), ImplFraction_ k _ _ (by omega) (by omega)]
      unfold spec_l02Make.f
      rw [Size_ _ (by omega) (by omega)]; simp only [Option.bind_some]
      rw [show ab ((nors g g.length 0).length : Int) = ((nors g g.length 0).length : Int) by unfold ab; rw [if_neg (by omega)]]
  · rw [if_neg h, if_neg h]

theorem toInts_l (l : List Int) (hl : l.length ≤ 1048576) : ∀ (d k : Nat) (i : Int) (a : List Int), (l.length : Int) - i = d → 0 ≤ i → a.length = l.length → (∀ j : Int, 0 ≤ j → j < i → rd a j = rd l j) → d < k → laws_toInt64S.l0 k l a i = some l := by
  intro d
  induction d with
  | zero =>
    intro k i a hd h0 ha hr hk
    obtain ⟨k, rfl⟩ : ∃ m, k = m + 1 := ⟨k - 1, by omega⟩
    simp only [laws_toInt64S.l0]; rw [if_neg (by omega)]
    congr 1
    exact rd_ext a l ha (fun j h1 h2 => hr j h1 (by omega))
  | succ d ih =>
    intro k i a hd h0 ha hr hk
    obtain ⟨k, rfl⟩ : ∃ m, k = m + 1 := ⟨k - 1, by omega⟩
    simp only [laws_toInt64S.l0]
    rw [if_pos (by omega), if_pos h0, if_pos (by omega), w64 (by omega) (by omega)]
    refine ih k (i + 1) _ (by omega) (by omega) (by simpa using ha) (fun j h1 h2 => ?_) (by omega)
    by_cases e : j = i
    · subst e; exact rd_same _ _ _ h0 (by omega)
    · rw [rd_other _ _ _ _ h0 h1 (by omega)]; exact hr j h1 (by omega)
theorem toInts_ (l : List Int) (hl : l.length ≤ 1048576) (k : Nat) (hk : 1048577 ≤ k) : laws_toInt64S.f k l = some l := by
  unfold laws_toInt64S.f
  rw [if_pos (by omega), if_pos (by simp; omega)]
  exact toInts_l l hl l.length k 0 _ (by omega) (by omega) (by simp) (fun j h1 h2 => by omega) (by omega)

theorem eqInts_l (l : List Int) (hl : l.length ≤ 1152921504606846976) : ∀ (d k : Nat) (i : Int), (l.length : Int) - i = d → 0 ≤ i → d < k → laws_eqInt64S.l0 k l l i = some true := by
  intro d
  induction d with
  | zero =>
    intro k i hd h0 hk
    obtain ⟨k, rfl⟩ : ∃ m, k = m + 1 := ⟨k - 1, by omega⟩
    simp only [laws_eqInt64S.l0]; rw [if_neg (by omega)]
  | succ d ih =>
    intro k i hd h0 hk
    obtain ⟨k, rfl⟩ : ∃ m, k = m + 1 := ⟨k - 1, by omega⟩
    simp only [laws_eqInt64S.l0]
    rw [if_pos (by omega), if_pos h0, if_pos (by omega), if_pos trivial, w64 (by omega) (by omega)]
    exact ih k (i + 1) (by omega) (by omega) (by omega)
theorem eqInts_ (l : List Int) (hl : l.length ≤ 1152921504606846976) (k : Nat) (hk : l.length < k) : laws_eqInt64S.f k l l = some true := by
  unfold laws_eqInt64S.f
  rw [if_pos rfl]; exact eqInts_l l hl l.length k 0 (by omega) (by omega) hk

theorem eqI_ (l : List Int) (hl : l.length ≤ 1048576) (k : Nat) (hk : 1048577 ≤ k) : laws_eqInt64S.f k l l = some true := eqInts_ l (by omega) k (by omega)

theorem FnExactShareNotOriginal : laws_FnExactShareNotOriginal.Pure := by
  intro l _ _ _
  refine ⟨1048800, ?_⟩
  unfold laws_FnExactShareNotOriginal.f
  by_cases hb : (l.length : Int) > 1048576
  · rw [if_pos hb]
  have hl : l.length ≤ 1048576 := by omega
  obtain ⟨r, hr, _⟩ := SpecShare_ l hl
  rw [if_neg hb, toInts_ l hl _ (by omega)]; simp only [Option.bind_some]
  rw [ImplShare_ l hl _ (by omega), hr _ (by omega)]; simp only [Option.bind_some, laws_eqFraction.f, if_true, laws_FnExactShareNotOriginal.j0, bne_self_eq_false, Bool.false_eq_true, if_false]
  rw [toInts_ l hl _ (by omega)]; simp only [Option.bind_some]
  rw [eqI_ l hl _ (by omega)]; simp

end Go.Proofs.Ytfajacoagaamlaa.Pure
