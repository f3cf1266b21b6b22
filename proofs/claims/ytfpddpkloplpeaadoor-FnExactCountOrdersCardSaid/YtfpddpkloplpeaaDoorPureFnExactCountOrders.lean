/- For all texts the program's CountOrders answers as the reference's does. No condition. -/
import Derived.Test.YtfpddpkloplpeaaDoorQFnExactCountOrdersx3
import Derived.Test.YtfpddpkloplpeaaDoorBase
namespace Go.Proofs.YtfpddpkloplpeaaDoor.Pure
open Go Go.RowKit Go.Proofs.YtfpddpkloplpeaaDoor.QFnExactCountOrders Go.Proofs.YtfpddpkloplpeaaDoorW.PrintWords Go.Proofs.YtfpddpkloplpeaaDoorW.PrintLast Go.Proofs.YtfpddpkloplpeaaDoorW.PrintMore Go.Proofs.YtfpddpkloplpeaaDoor.Base
set_option linter.unusedVariables false
set_option linter.unusedSimpArgs false

theorem or_nat (a b : Nat) (ha : a < 2 ^ 62) (hb : b < 2 ^ 62) : Go.bits .or .i64 (a : Int) (b : Int) = ((a ||| b : Nat) : Int) := by
  have h : a ||| b < 2 ^ 62 := Nat.or_lt_two_pow ha hb
  have key : (BitVec.ofInt 64 (a : Int) ||| BitVec.ofInt 64 (b : Int)).toNat = a ||| b := by
    rw [BitVec.toNat_or, BitVec.toNat_ofInt, BitVec.toNat_ofInt]
    have e1 : ((a : Int) % ((2 ^ 64 : Nat) : Int)).toNat = a := by omega
    have e2 : ((b : Int) % ((2 ^ 64 : Nat) : Int)).toNat = b := by omega
    rw [e1, e2]
  show IntKind.i64.wrap ((BitVec.ofInt 64 (a : Int) ||| BitVec.ofInt 64 (b : Int)).toNat : Nat) = _
  rw [key, IntKind.wrap_i64]
  omega
theorem and1_ (n : Int) : Go.bits .and .i64 n 1 = n % 2 := by
  have h1 : (BitVec.ofInt 64 1).toNat = 2 ^ 1 - 1 := by decide
  have key : (BitVec.ofInt 64 n &&& BitVec.ofInt 64 1).toNat = (n % ((2 ^ 64 : Nat) : Int)).toNat % 2 ^ 1 := by
    rw [BitVec.toNat_and, BitVec.toNat_ofInt, h1, Nat.and_two_pow_sub_one_eq_mod]
  show IntKind.i64.wrap ((BitVec.ofInt 64 n &&& BitVec.ofInt 64 1).toNat : Nat) = n % 2
  rw [key, IntKind.wrap_i64]
  omega
theorem u64s (j : Int) (h0 : 0 ≤ j) (h1 : j < 64) : IntKind.u64.wrap j = j := by
  simp [IntKind.wrap, IntKind.bits, IntKind.signed]; omega
theorem bit_ (D j : Nat) (h : j < 64) : Go.bits .and .i64 (shr .i64 (D : Int) (j : Int)) 1 = if D.testBit j = true then 1 else 0 := by
  rw [and1_]
  unfold shr
  rw [Int.toNat_natCast, show min j IntKind.i64.bits = j from Nat.min_eq_left (by show j ≤ 64; omega)]
  have e : ((D : Int) / 2 ^ j) % 2 = ((D / 2 ^ j % 2 : Nat) : Int) := by
    rw [Int.natCast_emod, Int.natCast_ediv, Int.natCast_pow]; rfl
  rw [e, Nat.testBit_eq_decide_div_mod_eq]
  by_cases c : D / 2 ^ j % 2 = 1
  · rw [c, if_pos (by simp)]; rfl
  · rw [if_neg (by simpa using c), show D / 2 ^ j % 2 = 0 by omega]; rfl
theorem shl1_ (j : Nat) (h : j ≤ 61) : shl .i64 1 (j : Int) = ((2 ^ j : Nat) : Int) := by
  unfold shl
  rw [Int.toNat_natCast, show min j IntKind.i64.bits = j from Nat.min_eq_left (by show j ≤ 64; omega), IntKind.wrap_i64]
  have h1 : 2 ^ j ≤ 2 ^ 61 := Nat.pow_le_pow_right (by omega) h
  have h0 : 0 < 2 ^ j := Nat.two_pow_pos j
  have e : (1 * 2 ^ j : Int) = ((2 ^ j : Nat) : Int) := by rw [Int.one_mul, Int.natCast_pow]; rfl
  rw [e]
  omega

/-- From some number of rounds on the answer is r. -/
def Ev {α : Type} (g : Nat → Option α) (r : α) : Prop := ∃ K, ∀ k, K ≤ k → g k = some r
theorem Ev.step {α : Type} {g h : Nat → Option α} {r : α} (e : ∀ k, g (k + 1) = h k) (hr : Ev h r) : Ev g r := by
  obtain ⟨K, hK⟩ := hr
  refine ⟨K + 1, fun k hk => ?_⟩
  obtain ⟨k, rfl⟩ : ∃ m, k = m + 1 := ⟨k - 1, by omega⟩
  rw [e]; exact hK k (by omega)
theorem Ev.now {α : Type} {g : Nat → Option α} {r : α} (e : ∀ k, g (k + 1) = some r) : Ev g r := Ev.step (h := fun _ => some r) e ⟨0, fun _ _ => rfl⟩
theorem Ev.bind {α β : Type} {c : Nat → Option α} {f : Nat → α → Option β} {t : α} {r : β} (hc : Ev c t) (hf : Ev (fun k => f k t) r) : Ev (fun k => (c k).bind (f k)) r := by
  obtain ⟨K, hK⟩ := hc
  obtain ⟨L, hL⟩ := hf
  exact ⟨K + L, fun k hk => by show (c k).bind (f k) = some r; rw [hK k (by omega)]; exact hL k (by omega)⟩
theorem Ev.eq {α : Type} {g h : Nat → Option α} {r : α} (e : ∀ k, g k = h k) (hr : Ev h r) : Ev g r := by
  obtain ⟨K, hK⟩ := hr
  exact ⟨K, fun k hk => by rw [e]; exact hK k hk⟩

theorem rd_get (l : List Int) (j : Nat) (h : j < l.length) : rd l (j : Int) = l[j] := by
  unfold rd; rw [Int.toNat_natCast, List.getD_eq_getElem?_getD, List.getElem?_eq_getElem h]; rfl
theorem has_l (l : List Int) (x : Int) (hl : l.length ≤ 1048576) : ∀ (d : Nat) (i : Nat), l.length - i = d → i ≤ l.length → ∀ r : Bool, (r = true ↔ x ∈ l.drop i) → Ev (fun k => spec_l00Has.l0 k l x (i : Int)) r := by
  intro d
  induction d with
  | zero =>
    intro i hd hi r hr
    have : r = false := by
      cases r with
      | false => rfl
      | true => have := hr.1 rfl; rw [List.drop_eq_nil_of_le (by omega)] at this; cases this
    subst this
    refine Ev.now (fun k => ?_)
    simp only [spec_l00Has.l0]
    rw [if_neg (by omega)]
  | succ d ih =>
    intro i hd hi r hr
    rw [List.drop_eq_getElem_cons (show i < l.length by omega), List.mem_cons] at hr
    have e : ∀ k, spec_l00Has.l0 (k + 1) l x (i : Int) = if rd l (i : Int) = x then some true else spec_l00Has.l0 k l x ((i + 1 : Nat) : Int) := by
      intro k
      simp only [spec_l00Has.l0]
      rw [if_pos (by omega), if_pos (by omega), w64 (n := (i : Int) + 1) (by omega) (by omega)]; rfl
    have hg := rd_get l i (by omega)
    by_cases q : rd l (i : Int) = x
    · have : r = true := hr.2 (.inl (by rw [← q, hg]))
      subst this
      exact Ev.now (fun k => by rw [e, if_pos q])
    · refine Ev.step (fun k => by rw [e, if_neg q]) (ih (i + 1) (by omega) (by omega) r (hr.trans ⟨fun h => h.elim (fun h => absurd (by rw [hg]; exact h.symm) q) id, .inr⟩))
theorem Has_ (l : List Int) (x : Int) (hl : l.length ≤ 1048576) : Ev (fun k => spec_l00Has.f k l x) (decide (x ∈ l)) :=
  has_l l x hl l.length 0 rfl (by omega) _ (by rw [List.drop_zero]; exact decide_eq_true_iff)

def bef (n g : Nat) : Nat := (g + n - 1) % n
def nxt (n g : Nat) : Nat := (g + 1) % n
/-- A gore may be pasted next, when those that p tells have been. -/
def fol (s : ByteArray) (n : Nat) (p : Nat → Bool) (g : Nat) : Bool := !p g && ((decide (bt s (bef n g : Int) = 60) || p (bef n g)) && (!decide (bt s (g : Int) = 60) || p (nxt n g)))
/-- All bytes tell seams. -/
def ltrs (s : ByteArray) : Prop := ∀ i : Int, 0 ≤ i → i < s.size → bt s i = 60 ∨ bt s i = 62
theorem tmod_nat (a b : Nat) : Int.tmod (a : Int) (b : Int) = ((a % b : Nat) : Int) := by
  rw [Int.tmod_eq_emod_of_nonneg (by omega)]; rfl
section
variable (s : ByteArray) (h2 : 2 ≤ s.size) (h12 : s.size ≤ 12)
include h2 h12
theorem tm_next (g : Nat) (hg : g < s.size) : Int.tmod (wrap64 ((g : Int) + 1)) (s.size : Int) = ((nxt s.size g : Nat) : Int) := by
  rw [w64 (by omega) (by omega), show (g : Int) + 1 = ((g + 1 : Nat) : Int) by omega, tmod_nat]; rfl
theorem tm_bef (g : Nat) (hg : g < s.size) : Int.tmod (wrap64 ((wrap64 ((g : Int) + (s.size : Int))) - 1)) (s.size : Int) = ((bef s.size g : Nat) : Int) := by
  rw [w64 (n := (g : Int) + (s.size : Int)) (by omega) (by omega), w64 (by omega) (by omega), show (g : Int) + (s.size : Int) - 1 = ((g + s.size - 1 : Nat) : Int) by omega, tmod_nat]; rfl
theorem nxt_lt (g : Nat) : nxt s.size g < s.size := Nat.mod_lt _ (by omega)
theorem bef_lt (g : Nat) : bef s.size g < s.size := Nat.mod_lt _ (by omega)
variable (hl : ltrs s)
include hl
theorem MayFollow_ (D g : Nat) (hg : g < s.size) : impl_mayFollow.f s (D : Int) (g : Int) = some (fol s s.size (fun j => D.testBit j) g) := by
  have hb := bef_lt s h2 h12 g
  have hn := nxt_lt s h2 h12 g
  have hl2 := hl (g : Int) (by omega) (by omega)
  unfold impl_mayFollow.f fol
  rw [if_neg (by omega), if_pos (by omega), tm_next s h2 h12 g hg, tm_bef s h2 h12 g hg, bit_ D g (by omega), bit_ D _ (by omega), bit_ D _ (by omega)]
  by_cases c : D.testBit g = true
  · rw [if_pos (show (if D.testBit g = true then (1 : Int) else 0) = 1 by rw [if_pos c])]; simp [c]
  rw [if_neg (show ¬ (if D.testBit g = true then (1 : Int) else 0) = 1 by rw [if_neg c]; omega), if_pos (by omega), if_pos (by omega), if_pos (by omega)]
  have hc : D.testBit g = false := by simpa using c
  have step : (if (g : Int) < (s.size : Int) then (if bt s (g : Int) = 62 then some true else some ((if D.testBit (nxt s.size g) = true then (1 : Int) else 0) == 1)) else none) = some (!decide (bt s (g : Int) = 60) || D.testBit (nxt s.size g)) := by
    rw [if_pos (by omega)]
    rcases hl2 with e | e
    · rw [e, if_neg (by omega)]; cases D.testBit (nxt s.size g) <;> rfl
    · rw [e, if_pos rfl]; rfl
  by_cases c1 : bt s (bef s.size g : Int) = 60
  · rw [if_pos c1, step]; simp [c1, hc]
  · rw [if_neg c1]
    by_cases c2 : D.testBit (bef s.size g) = true
    · rw [if_pos (show (if D.testBit (bef s.size g) = true then (1 : Int) else 0) = 1 by rw [if_pos c2]), step]; simp [c2, hc]
    · rw [if_neg (show ¬ (if D.testBit (bef s.size g) = true then (1 : Int) else 0) = 1 by rw [if_neg c2]; omega)]; simp [c1, c2]
omit hl in
theorem First_ (done : List Int) (hd : done.length ≤ 1000) (p : Nat → Bool) (hp : ∀ j : Nat, j < s.size → (p j = true ↔ (j : Int) ∈ done)) (g : Nat) (hg : g < s.size) (hpg : p g = false) : Ev (fun k => spec_l18First.f k s done (g : Int)) (fol s s.size p g) := by
  have hb := bef_lt s h2 h12 g
  have hn := nxt_lt s h2 h12 g
  have e1 : Ev (fun k => spec_l00Has.f k done ((nxt s.size g : Nat) : Int)) (p (nxt s.size g)) := by
    have := Has_ done ((nxt s.size g : Nat) : Int) (by omega)
    rw [show decide (((nxt s.size g : Nat) : Int) ∈ done) = p (nxt s.size g) from by rw [Bool.eq_iff_iff, decide_eq_true_iff]; exact (hp _ hn).symm] at this
    exact this
  have e2 : Ev (fun k => spec_l00Has.f k done ((bef s.size g : Nat) : Int)) (p (bef s.size g)) := by
    have := Has_ done ((bef s.size g : Nat) : Int) (by omega)
    rw [show decide (((bef s.size g : Nat) : Int) ∈ done) = p (bef s.size g) from by rw [Bool.eq_iff_iff, decide_eq_true_iff]; exact (hp _ hb).symm] at this
    exact this
  have tail : Ev (fun k => if bt s ((bef s.size g : Nat) : Int) = 60 then some true else (spec_l00Has.f k done ((bef s.size g : Nat) : Int)).bind fun t => some t) (decide (bt s (bef s.size g : Int) = 60) || p (bef s.size g)) := by
    by_cases c : bt s (bef s.size g : Int) = 60
    · exact ⟨0, fun k _ => by show (if bt s ((bef s.size g : Nat) : Int) = 60 then some true else _) = _; rw [if_pos c, decide_eq_true c]; rfl⟩
    · rw [decide_eq_false c, Bool.false_or]
      exact Ev.eq (h := fun k => (spec_l00Has.f k done ((bef s.size g : Nat) : Int)).bind fun t => some t) (fun k => by rw [if_neg c]) (Ev.bind e2 ⟨0, fun k _ => rfl⟩)
  by_cases c : bt s (g : Int) = 60
  · refine Ev.eq (h := fun k => (spec_l00Has.f k done ((nxt s.size g : Nat) : Int)).bind fun t => if t = true then (if bt s ((bef s.size g : Nat) : Int) = 60 then some true else (spec_l00Has.f k done ((bef s.size g : Nat) : Int)).bind fun t => some t) else some false) (fun k => ?_) (Ev.bind e1 ?_)
    · unfold spec_l18First.f
      rw [if_pos (by omega), if_pos (by omega), if_pos c, if_neg (by omega), tm_next s h2 h12 g hg, tm_bef s h2 h12 g hg]
      congr 1; funext t
      rw [if_pos (show (0 : Int) ≤ ((bef s.size g : Nat) : Int) by omega), if_pos (show ((bef s.size g : Nat) : Int) < (s.size : Int) by omega)]
    · unfold fol
      rw [hpg, decide_eq_true c]
      by_cases q : p (nxt s.size g) = true
      · rw [q]
        simp only [Bool.not_false, Bool.true_and, Bool.or_true, Bool.and_true]
        exact Ev.eq (fun k => by simp only [if_true]) tail
      · rw [show p (nxt s.size g) = false by simpa using q]
        exact ⟨0, fun k _ => by simp⟩
  · refine Ev.eq (h := fun k => if bt s ((bef s.size g : Nat) : Int) = 60 then some true else (spec_l00Has.f k done ((bef s.size g : Nat) : Int)).bind fun t => some t) (fun k => ?_) ?_
    · unfold spec_l18First.f
      rw [if_pos (by omega), if_pos (by omega), if_neg c, if_neg (by omega), tm_bef s h2 h12 g hg, if_pos (show (0 : Int) ≤ ((bef s.size g : Nat) : Int) by omega), if_pos (show ((bef s.size g : Nat) : Int) < (s.size : Int) by omega)]
    · unfold fol
      rw [hpg, decide_eq_false c]
      simp only [Bool.not_false, Bool.true_and, Bool.true_or, Bool.and_true]
      exact tail
end

def rmv (E g : Nat) : Nat := E ^^^ 2 ^ g
theorem rmv_test (E g j : Nat) : (rmv E g).testBit j = (E.testBit j ^^ decide (g = j)) := by
  unfold rmv; rw [Nat.testBit_xor, Nat.testBit_two_pow]
theorem rmv_or {E g : Nat} (h : E.testBit g = true) : rmv E g ||| 2 ^ g = E := by
  apply Nat.eq_of_testBit_eq
  intro j
  rw [Nat.testBit_or, rmv_test, Nat.testBit_two_pow]
  by_cases e : g = j
  · subst e; simp [h]
  · simp [e]
theorem or_lt {D g : Nat} (h : D.testBit g = false) : D < D ||| 2 ^ g := by
  have h1 : D ≤ D ||| 2 ^ g := Nat.left_le_or
  have h2 : D ≠ D ||| 2 ^ g := by
    intro e
    have : (D ||| 2 ^ g).testBit g = true := by rw [Nat.testBit_or, Nat.testBit_two_pow]; simp
    rw [← e, h] at this; cases this
  omega
theorem rmv_lt {E g : Nat} (h : E.testBit g = true) : rmv E g < E := by
  have h1 : (rmv E g).testBit g = false := by rw [rmv_test, h]; simp
  have := or_lt h1
  rwa [rmv_or h] at this
theorem or_rmv {D g : Nat} (h : D.testBit g = false) : rmv (D ||| 2 ^ g) g = D := by
  apply Nat.eq_of_testBit_eq
  intro j
  rw [rmv_test, Nat.testBit_or, Nat.testBit_two_pow]
  by_cases e : g = j
  · subst e; simp [h]
  · simp [e]
def sumN (f : Nat → Int) : Nat → Int
  | 0 => 0
  | m + 1 => sumN f m + f m
theorem sumN_eq (f g : Nat → Int) : ∀ m : Nat, (∀ i, i < m → f i = g i) → sumN f m = sumN g m
  | 0, _ => rfl
  | m + 1, h => by unfold sumN; rw [sumN_eq f g m (fun i hi => h i (by omega)), h m (by omega)]
theorem sumN_zero (f : Nat → Int) : ∀ m : Nat, (∀ i, i < m → f i = 0) → sumN f m = 0
  | 0, _ => rfl
  | m + 1, h => by unfold sumN; rw [sumN_zero f m (fun i hi => h i (by omega)), h m (by omega)]; rfl
theorem sumN_nonneg (f : Nat → Int) : ∀ m : Nat, (∀ i, i < m → 0 ≤ f i) → 0 ≤ sumN f m
  | 0, _ => Int.le_refl _
  | m + 1, h => by have h1 := sumN_nonneg f m (fun i hi => h i (by omega)); have h2 := h m (by omega); unfold sumN; omega
theorem sumN_le (f g : Nat → Int) : ∀ m : Nat, (∀ i, i < m → f i ≤ g i) → sumN f m ≤ sumN g m
  | 0, _ => Int.le_refl _
  | m + 1, h => by have h1 := sumN_le f g m (fun i hi => h i (by omega)); have h2 := h m (by omega); unfold sumN; omega
theorem sumN_bd (f : Nat → Int) (B : Int) : ∀ m : Nat, (∀ i, i < m → f i ≤ B) → sumN f m ≤ m * B
  | 0, _ => by simp [sumN]
  | m + 1, h => by
    have h1 := sumN_bd f B m (fun i hi => h i (by omega)); have h2 := h m (by omega)
    have e : ((m + 1 : Nat) : Int) * B = m * B + B := by rw [Int.natCast_add, Int.add_mul]; simp
    unfold sumN; omega
theorem sumN_one (f g : Nat → Int) (j : Nat) : ∀ m : Nat, j < m → (∀ i, i < m → i ≠ j → f i = g i) → sumN g m = sumN f m + (g j - f j)
  | 0, hj, _ => by omega
  | m + 1, hj, h => by
    unfold sumN
    by_cases e : j = m
    · subst e
      rw [sumN_eq g f j (fun i hi => (h i (by omega) (by omega)).symm)]; omega
    · rw [sumN_one f g j m (by omega) (fun i hi hne => h i (by omega) hne), h m (by omega) (fun z => e z.symm)]; omega
def pcn (E : Nat) : Nat → Nat
  | 0 => 0
  | m + 1 => pcn E m + if E.testBit m = true then 1 else 0
theorem pcn_le (E : Nat) : ∀ m, pcn E m ≤ m
  | 0 => Nat.le_refl _
  | m + 1 => by have := pcn_le E m; unfold pcn; split <;> omega
theorem pcn_rmv {E g : Nat} (h : E.testBit g = true) : ∀ m, pcn E m = pcn (rmv E g) m + if g < m then 1 else 0
  | 0 => rfl
  | m + 1 => by
    have ih := pcn_rmv h m
    unfold pcn
    rw [ih, rmv_test]
    by_cases e : g = m
    · subst e; rw [h]; simp
    · by_cases c : g < m
      · rw [if_pos c, if_pos (show g < m + 1 by omega)]; simp [e]; split <;> omega
      · rw [if_neg c, if_neg (show ¬ g < m + 1 by omega)]; simp [e]
/-- How often a set is reached over a set with one gore less. -/
def trm (V : Nat → Int) (s : ByteArray) (E g : Nat) : Int := if E.testBit g = true ∧ fol s s.size (fun j => (rmv E g).testBit j) g = true then V (rmv E g) else 0
def VF (s : ByteArray) : Nat → Nat → Int
  | 0, _ => 0
  | F + 1, E => if E = 0 then 1 else sumN (fun g => trm (VF s F) s E g) s.size
theorem VF_stable (s : ByteArray) : ∀ E F : Nat, E < F → VF s F E = VF s (E + 1) E := by
  intro E
  induction E using Nat.strongRecOn with
  | _ E ih =>
    intro F hF
    obtain ⟨F, rfl⟩ : ∃ m, F = m + 1 := ⟨F - 1, by omega⟩
    unfold VF
    by_cases z : E = 0
    · rw [if_pos z, if_pos z]
    · rw [if_neg z, if_neg z]
      apply sumN_eq
      intro g _
      unfold trm
      by_cases c : E.testBit g = true ∧ fol s s.size (fun j => (rmv E g).testBit j) g = true
      · have hl := rmv_lt c.1
        rw [if_pos c, if_pos c, ih _ hl F (by omega), ih _ hl E hl]
      · rw [if_neg c, if_neg c]
/-- In how many orders just the gores of a set can be pasted first. -/
def VV (s : ByteArray) (E : Nat) : Int := VF s (E + 1) E
theorem VV_eq (s : ByteArray) (E : Nat) : VV s E = if E = 0 then 1 else sumN (fun g => trm (VV s) s E g) s.size := by
  show VF s (E + 1) E = _
  unfold VF
  by_cases z : E = 0
  · rw [if_pos z, if_pos z]
  · rw [if_neg z, if_neg z]
    apply sumN_eq
    intro g _
    unfold trm
    by_cases c : E.testBit g = true ∧ fol s s.size (fun j => (rmv E g).testBit j) g = true
    · rw [if_pos c, if_pos c, VF_stable s _ E (rmv_lt c.1)]; rfl
    · rw [if_neg c, if_neg c]
theorem VV_nonneg (s : ByteArray) : ∀ E : Nat, 0 ≤ VV s E := by
  intro E
  induction E using Nat.strongRecOn with
  | _ E ih =>
    rw [VV_eq]
    split
    · omega
    · apply sumN_nonneg
      intro g _
      unfold trm
      split
      · rename_i c; exact ih _ (rmv_lt c.1)
      · omega
theorem trm_nonneg (s : ByteArray) (E g : Nat) : 0 ≤ trm (VV s) s E g := by
  unfold trm; split
  · exact VV_nonneg s _
  · omega
theorem VV_le (s : ByteArray) (h12 : s.size ≤ 12) : ∀ E : Nat, VV s E ≤ ((12 ^ pcn E s.size : Nat) : Int) := by
  intro E
  induction E using Nat.strongRecOn with
  | _ E ih =>
    rw [VV_eq]
    have h1 : 0 < 12 ^ pcn E s.size := Nat.pow_pos (by omega)
    split
    · omega
    · by_cases p0 : pcn E s.size = 0
      · rw [sumN_zero]
        · omega
        · intro g hg
          unfold trm
          rw [if_neg]
          intro c
          have := pcn_rmv c.1 s.size
          rw [if_pos hg] at this; omega
      · have hb : ∀ g, g < s.size → trm (VV s) s E g ≤ ((12 ^ (pcn E s.size - 1) : Nat) : Int) := by
          intro g hg
          unfold trm
          split
          · rename_i c
            have h3 := ih _ (rmv_lt c.1)
            have h4 := pcn_rmv c.1 s.size
            rw [if_pos hg] at h4
            rw [show pcn E s.size - 1 = pcn (rmv E g) s.size by omega]; exact h3
          · have : 0 < 12 ^ (pcn E s.size - 1) := Nat.pow_pos (by omega)
            omega
        have h5 := sumN_bd (fun g => trm (VV s) s E g) _ s.size hb
        have h6 : 12 ^ pcn E s.size = 12 * 12 ^ (pcn E s.size - 1) := by
          obtain ⟨m, hm⟩ : ∃ m, pcn E s.size = m + 1 := ⟨pcn E s.size - 1, by omega⟩
          rw [hm, show m + 1 - 1 = m from rfl, Nat.pow_succ, Nat.mul_comm]
        have h7 : s.size * 12 ^ (pcn E s.size - 1) ≤ 12 * 12 ^ (pcn E s.size - 1) := Nat.mul_le_mul_right _ h12
        have h8 : (s.size : Int) * ((12 ^ (pcn E s.size - 1) : Nat) : Int) = ((s.size * 12 ^ (pcn E s.size - 1) : Nat) : Int) := by rw [Int.natCast_mul]
        rw [h8] at h5
        omega
theorem VV_bd (s : ByteArray) (h12 : s.size ≤ 12) (E : Nat) : VV s E ≤ 8916100448256 := by
  have h1 := VV_le s h12 E
  have h2 : 12 ^ pcn E s.size ≤ 12 ^ 12 := Nat.pow_le_pow_right (by omega) (by have := pcn_le E s.size; omega)
  have h3 : (12 : Nat) ^ 12 = 8916100448256 := by decide
  omega

theorem In_ (a b c : Int) : spec_l00In.f a b c = some (decide (b ≤ a ∧ a ≤ c)) := by
  unfold spec_l00In.f
  by_cases h : a ≥ b
  · rw [if_pos h]; simp [show b ≤ a from h]
  · rw [if_neg h]; simp [show ¬ b ≤ a from h]

theorem dw_nil (p : UInt8 → Bool) : ∀ l : List UInt8, l.dropWhile p = [] ↔ l.all p = true
  | [] => by simp
  | a :: l => by
    by_cases h : p a = true
    · rw [List.dropWhile_cons_of_pos h, dw_nil p l]; simp [h]
    · rw [List.dropWhile_cons_of_neg h]; simp [h]
theorem dw_all (p : UInt8 → Bool) : ∀ l : List UInt8, (l.dropWhile p).all p = true → l.all p = true
  | [], _ => rfl
  | a :: l, h => by
    by_cases q : p a = true
    · rw [List.dropWhile_cons_of_pos q] at h
      have := dw_all p l h
      simp only [List.all_cons, q, this, Bool.and_self]
    · rw [List.dropWhile_cons_of_neg q] at h; exact h
/-- Nothing is left of a text that is trimmed just if all its bytes are those of the set. -/
theorem trim_nil (l cs : List UInt8) : Lib.trimS l cs = [] ↔ l.all (cs.contains ·) = true := by
  unfold Lib.trimS Lib.trimLeftS
  rw [dw_nil]
  unfold Lib.trimRightS
  rw [List.all_reverse]
  constructor
  · intro h
    have := dw_all _ _ h
    rwa [List.all_reverse] at this
  · intro h
    rw [← List.all_reverse] at h
    rw [(dw_nil _ _).2 h]; rfl

theorem toList_bytes (s : ByteArray) : s.toList = s.data.toList := Lib.toList_data s
theorem bt_getElem (s : ByteArray) (i : Nat) (h : i < s.size) : bt s (i : Int) = ((s.data.toList[i]'(by simpa using h)).toNat : Int) := by
  rw [← bt_at s (i : Int) (by simpa using h)]
  congr 1
/-- A fact on all bytes of a text, by places and by the list. -/
theorem all_bytes (s : ByteArray) (p : Int → Bool) : (s.data.toList.all fun b => p (b.toNat : Int)) = true ↔ ∀ i : Int, 0 ≤ i → i < s.size → p (bt s i) = true := by
  rw [List.all_eq_true]
  constructor
  · intro h i h0 h1
    obtain ⟨n, rfl⟩ : ∃ n : Nat, i = (n : Int) := ⟨i.toNat, by omega⟩
    rw [bt_getElem s n (by omega)]
    exact h _ (List.getElem_mem _)
  · intro h b hb
    obtain ⟨n, hn, rfl⟩ := List.getElem_of_mem hb
    have hn2 : n < s.size := by simpa using hn
    have := h (n : Int) (by omega) (by omega)
    rwa [bt_getElem s n hn2] at this

def seamB (b : Int) : Bool := decide (b = 60) || decide (b = 62)
def wanB (s : ByteArray) : Bool := decide (2 ≤ s.size ∧ s.size ≤ 12) && s.data.toList.all fun b => seamB (b.toNat : Int)
theorem wanB_says {s : ByteArray} (h : wanB s = true) : 2 ≤ s.size ∧ s.size ≤ 12 ∧ ∀ i : Int, 0 ≤ i → i < s.size → bt s i = 60 ∨ bt s i = 62 := by
  unfold wanB at h
  rw [Bool.and_eq_true] at h
  have h1 := of_decide_eq_true h.1
  refine ⟨h1.1, h1.2, fun i i0 i1 => ?_⟩
  have := (all_bytes s seamB).1 h.2 i i0 i1
  unfold seamB at this
  simpa using this
def seamSet : ByteArray := ⟨#[60, 62]⟩
theorem seamSet_ (b : UInt8) : seamSet.data.toList.contains b = seamB (b.toNat : Int) := by
  have e : ∀ n : Fin 256, seamSet.data.toList.contains n.1.toUInt8 = seamB (n.1 : Int) := by decide +kernel
  have := e ⟨b.toNat, b.toNat_lt⟩
  simpa using this
theorem AreSeams_ (s : ByteArray) : impl_areSeams.f s = some (wanB s) := by
  unfold impl_areSeams.f
  by_cases h1 : (s.size : Int) ≥ 2
  · rw [if_pos h1]
    by_cases h2 : (s.size : Int) ≤ 12
    · rw [if_pos h2]
      show ((strings_Trim.f s seamSet).bind fun t => some (t.toList == ([] : List UInt8))) = some (wanB s)
      have ht : strings_Trim.f s seamSet = some ⟨(Lib.trimS s.data.toList seamSet.data.toList).toArray⟩ := by
        unfold strings_Trim.f
        rw [if_pos ⟨by omega, by decide, by decide⟩]
      rw [ht]; simp only [Option.bind_some]
      rw [toList_bytes]
      congr 1
      show ((Lib.trimS s.data.toList seamSet.data.toList) == []) = _
      have h := trim_nil s.data.toList seamSet.data.toList
      have e : (s.data.toList.all fun b => seamSet.data.toList.contains b) = (s.data.toList.all fun b => seamB (b.toNat : Int)) := by
        congr 1; funext b; exact seamSet_ b
      rw [e] at h
      unfold wanB
      rw [decide_eq_true (show 2 ≤ s.size ∧ s.size ≤ 12 by omega), Bool.true_and]
      cases q : (s.data.toList.all fun b => seamB (b.toNat : Int)) with
      | true => rw [h.2 q]; rfl
      | false =>
        cases z : Lib.trimS s.data.toList seamSet.data.toList with
        | nil => have := h.1 z; rw [this] at q; cases q
        | cons a l => rfl
    · rw [if_neg h2]; congr 1; unfold wanB; simp; omega
  · rw [if_neg h1]; congr 1; unfold wanB; simp; omega
theorem specWanted_l (s : ByteArray) (hs : s.size ≤ 1048576) : ∀ (d : Nat) (i : Int), (s.size : Int) - i = d → 0 ≤ i → ∀ r : Bool, (r = true ↔ (2 ≤ s.size ∧ s.size ≤ 12) ∧ ∀ j : Int, i ≤ j → j < s.size → seamB (bt s j) = true) → Ev (fun k => spec_l18Wanted.l0 k s i) r := by
  intro d
  induction d with
  | zero =>
    intro i hd h0 r hr
    have e : r = decide (2 ≤ (s.size : Int) ∧ (s.size : Int) ≤ 12) := by
      rw [Bool.eq_iff_iff, hr, decide_eq_true_iff]
      exact ⟨fun h => by omega, fun h => ⟨by omega, fun j _ _ => by omega⟩⟩
    rw [e]
    refine Ev.now (fun k => ?_)
    simp only [spec_l18Wanted.l0]
    rw [if_neg (by omega), In_]; rfl
  | succ d ih =>
    intro i hd h0 r hr
    have e : ∀ k, spec_l18Wanted.l0 (k + 1) s i = if seamB (bt s i) = true then spec_l18Wanted.l0 k s (i + 1) else some false := by
      intro k
      simp only [spec_l18Wanted.l0]
      rw [if_pos (by omega), if_pos h0, w64 (n := i + 1) (by omega) (by omega)]
      unfold seamB
      by_cases c1 : bt s i = 60
      · simp [c1]
      · by_cases c2 : bt s i = 62
        · simp [c2]
        · simp [c1, c2]
    by_cases c : seamB (bt s i) = true
    · refine Ev.step (fun k => by rw [e, if_pos c]) (ih (i + 1) (by omega) (by omega) r ?_)
      rw [hr]
      constructor
      · exact fun h => ⟨h.1, fun j j0 j1 => h.2 j (by omega) j1⟩
      · intro h
        refine ⟨h.1, fun j j0 j1 => ?_⟩
        by_cases z : j = i
        · subst z; exact c
        · exact h.2 j (by omega) j1
    · have : r = false := by
        cases r with
        | false => rfl
        | true => exact absurd ((hr.1 rfl).2 i (Int.le_refl _) (by omega)) c
      subst this
      exact Ev.now (fun k => by rw [e, if_neg c])
theorem SpecWanted_ (s : ByteArray) (hs : s.size ≤ 1048576) : Ev (fun k => spec_l18Wanted.f k s) (wanB s) :=
  specWanted_l s hs s.size 0 (by omega) (by omega) _ (by
    unfold wanB
    rw [Bool.and_eq_true, decide_eq_true_iff]
    exact and_congr_right (fun _ => all_bytes s seamB))

/-- From some number of rounds on there is an answer, one that is as told. -/
def EvP {α : Type} (g : Nat → Option α) (Q : α → Prop) : Prop := ∃ r, Q r ∧ Ev g r
theorem EvP.step {α : Type} {g h : Nat → Option α} {Q : α → Prop} (e : ∀ k, g (k + 1) = h k) (hr : EvP h Q) : EvP g Q := by
  obtain ⟨r, hq, hr⟩ := hr
  exact ⟨r, hq, Ev.step e hr⟩
theorem EvP.eq {α : Type} {g h : Nat → Option α} {Q : α → Prop} (e : ∀ k, g k = h k) (hr : EvP h Q) : EvP g Q := by
  obtain ⟨r, hq, hr⟩ := hr
  exact ⟨r, hq, Ev.eq e hr⟩
theorem EvP.bind {α β : Type} {c : Nat → Option α} {f : Nat → α → Option β} {P : α → Prop} {Q : β → Prop} (hc : EvP c P) (hf : ∀ t, P t → EvP (fun k => f k t) Q) : EvP (fun k => (c k).bind (f k)) Q := by
  obtain ⟨t, hp, hc⟩ := hc
  obtain ⟨r, hq, hr⟩ := hf t hp
  exact ⟨r, hq, Ev.bind hc hr⟩

def castL (l : List Nat) : List Int := l.map fun (j : Nat) => (j : Int)
theorem castL_len (l : List Nat) : (castL l).length = l.length := by simp [castL]
theorem castL_mem (l : List Nat) (j : Nat) : (j : Int) ∈ castL l ↔ j ∈ l := by
  unfold castL
  rw [List.mem_map]
  constructor
  · rintro ⟨x, hx, e⟩
    have : x = j := by omega
    rwa [this] at hx
  · exact fun h => ⟨j, h, rfl⟩
theorem castL_app (l : List Nat) (g : Nat) : castL (l ++ [g]) = castL l ++ [(g : Int)] := by simp [castL]

def e0 (E : Nat) : Int := if E = 0 then 1 else 0
/-- The number of a set when all smaller sets than D have been seen, and of D the first j gores. -/
def stg (s : ByteArray) (E D j : Nat) : Int := e0 E + sumN (fun g => if rmv E g < D ∨ rmv E g = D ∧ g < j then trm (VV s) s E g else 0) s.size
theorem trm_bit {s : ByteArray} {E g : Nat} (h : ¬ E.testBit g = true) : trm (VV s) s E g = 0 := by
  unfold trm; rw [if_neg (fun c => h c.1)]
theorem stg_done (s : ByteArray) (E D j : Nat) (h : E ≤ D) : stg s E D j = VV s E := by
  rw [VV_eq]
  unfold stg e0
  by_cases z : E = 0
  · rw [if_pos z, if_pos z, sumN_zero]
    · rfl
    · intro g _
      rw [trm_bit (by rw [z]; simp)]; split <;> rfl
  · rw [if_neg z, if_neg z, Int.zero_add]
    apply sumN_eq
    intro g _
    by_cases c : E.testBit g = true
    · rw [if_pos (.inl (by have := rmv_lt c; omega))]
    · rw [trm_bit c]; split <;> rfl
theorem stg_next (s : ByteArray) (E D : Nat) : stg s E D s.size = stg s E (D + 1) 0 := by
  unfold stg
  congr 1
  apply sumN_eq
  intro g hg
  by_cases c : rmv E g < D ∨ rmv E g = D ∧ g < s.size
  · rw [if_pos c, if_pos (.inl (by omega))]
  · rw [if_neg c, if_neg (by omega)]
theorem stg_same (s : ByteArray) (E D j : Nat) (h : rmv E j = D → trm (VV s) s E j = 0) : stg s E D (j + 1) = stg s E D j := by
  unfold stg
  congr 1
  apply sumN_eq
  intro g _
  by_cases e : g = j
  · subst e
    by_cases r : rmv E g = D
    · rw [h r]; split <;> split <;> rfl
    · by_cases c : rmv E g < D
      · rw [if_pos (.inl c), if_pos (.inl c)]
      · rw [if_neg (by omega), if_neg (by omega)]
  · by_cases c : rmv E g < D ∨ rmv E g = D ∧ g < j
    · rw [if_pos c, if_pos (by omega)]
    · rw [if_neg c, if_neg (by omega)]
theorem stg_add (s : ByteArray) (D j : Nat) (hj : j < s.size) (hf : fol s s.size (fun i => D.testBit i) j = true) : stg s (D ||| 2 ^ j) D (j + 1) = stg s (D ||| 2 ^ j) D j + VV s D := by
  have hb : D.testBit j = false := by
    unfold fol at hf
    cases z : D.testBit j with
    | false => rfl
    | true => simp [z] at hf
  have hr := or_rmv hb
  have ht : trm (VV s) s (D ||| 2 ^ j) j = VV s D := by
    unfold trm
    rw [hr, if_pos ⟨by rw [Nat.testBit_or, Nat.testBit_two_pow]; simp, hf⟩]
  unfold stg
  have := sumN_one (fun g => if rmv (D ||| 2 ^ j) g < D ∨ rmv (D ||| 2 ^ j) g = D ∧ g < j then trm (VV s) s (D ||| 2 ^ j) g else 0) (fun g => if rmv (D ||| 2 ^ j) g < D ∨ rmv (D ||| 2 ^ j) g = D ∧ g < j + 1 then trm (VV s) s (D ||| 2 ^ j) g else 0) j s.size hj (fun i _ hne => by
    by_cases c : rmv (D ||| 2 ^ j) i < D ∨ rmv (D ||| 2 ^ j) i = D ∧ i < j
    · rw [if_pos c, if_pos (by omega)]
    · rw [if_neg c, if_neg (by omega)])
  rw [this]
  have n1 : ¬ (rmv (D ||| 2 ^ j) j < D ∨ rmv (D ||| 2 ^ j) j = D ∧ j < j) := by omega
  have n2 : rmv (D ||| 2 ^ j) j < D ∨ rmv (D ||| 2 ^ j) j = D ∧ j < j + 1 := .inr ⟨hr, by omega⟩
  rw [if_pos n2, if_neg n1, ht]; omega
theorem stg_bd (s : ByteArray) (h12 : s.size ≤ 12) (E D j : Nat) : 0 ≤ stg s E D j ∧ stg s E D j ≤ 8916100448256 := by
  have h1 : stg s E D j ≤ stg s E E 0 := by
    unfold stg
    have := sumN_le (fun g => if rmv E g < D ∨ rmv E g = D ∧ g < j then trm (VV s) s E g else 0) (fun g => if rmv E g < E ∨ rmv E g = E ∧ g < 0 then trm (VV s) s E g else 0) s.size (fun g _ => by
      by_cases c : E.testBit g = true
      · have q : (if rmv E g < E ∨ rmv E g = E ∧ g < 0 then trm (VV s) s E g else 0) = trm (VV s) s E g := if_pos (.inl (rmv_lt c))
        have := trm_nonneg s E g
        show (if rmv E g < D ∨ rmv E g = D ∧ g < j then trm (VV s) s E g else 0) ≤ (if rmv E g < E ∨ rmv E g = E ∧ g < 0 then trm (VV s) s E g else 0)
        rw [q]; split <;> omega
      · show (if rmv E g < D ∨ rmv E g = D ∧ g < j then trm (VV s) s E g else 0) ≤ (if rmv E g < E ∨ rmv E g = E ∧ g < 0 then trm (VV s) s E g else 0)
        rw [trm_bit c]; split <;> split <;> omega)
    omega
  rw [stg_done s E E 0 (Nat.le_refl _)] at h1
  have h2 := VV_bd s h12 E
  refine ⟨?_, by omega⟩
  unfold stg e0
  have := sumN_nonneg (fun g => if rmv E g < D ∨ rmv E g = D ∧ g < j then trm (VV s) s E g else 0) s.size (fun g _ => by
    show 0 ≤ (if rmv E g < D ∨ rmv E g = D ∧ g < j then trm (VV s) s E g else 0)
    have := trm_nonneg s E g
    split <;> omega)
  split <;> omega
/-- What the table holds at a stage. -/
def Stg (s : ByteArray) (T : List Int) (D j : Nat) : Prop := T.length = 2 ^ s.size ∧ ∀ E : Nat, E < 2 ^ s.size → rd T (E : Int) = stg s E D j
theorem rd_set_nat (T : List Int) (i E : Nat) (v : Int) (hi : i < T.length) : rd (T.set i v) (E : Int) = if E = i then v else rd T (E : Int) := by
  unfold rd
  rw [Int.toNat_natCast, List.getD_eq_getElem?_getD, List.getD_eq_getElem?_getD, List.getElem?_set]
  by_cases e : i = E
  · subst e; rw [if_pos rfl, if_pos hi, if_pos rfl]; rfl
  · rw [if_neg e, if_neg (fun z => e z.symm)]
theorem Stg_skip {s : ByteArray} {T : List Int} {D j : Nat} (h : Stg s T D j) (hn : VV s D = 0 ∨ fol s s.size (fun i => D.testBit i) j = false) : Stg s T D (j + 1) := by
  refine ⟨h.1, fun E hE => ?_⟩
  rw [h.2 E hE, stg_same]
  intro r
  unfold trm
  rw [r]
  rcases hn with hn | hn
  · rw [hn]; split <;> rfl
  · rw [if_neg (fun c => by rw [hn] at c; simp at c)]
theorem Stg_put {s : ByteArray} {T : List Int} {D j : Nat} (h : Stg s T D j) (hj : j < s.size) (hD : D < 2 ^ s.size) (hf : fol s s.size (fun i => D.testBit i) j = true) : Stg s (T.set (D ||| 2 ^ j) (rd T ((D ||| 2 ^ j : Nat) : Int) + VV s D)) D (j + 1) := by
  have hlt : D ||| 2 ^ j < 2 ^ s.size := Nat.or_lt_two_pow hD (Nat.pow_lt_pow_right (by omega) hj)
  refine ⟨by rw [List.length_set]; exact h.1, fun E hE => ?_⟩
  rw [rd_set_nat _ _ _ _ (by rw [h.1]; exact hlt)]
  by_cases e : E = D ||| 2 ^ j
  · subst e
    rw [if_pos rfl, h.2 _ hlt, stg_add s D j hj hf]
  · rw [if_neg e, h.2 E hE, stg_same]
    intro r
    unfold trm
    rw [if_neg]
    intro c
    apply e
    rw [← r, rmv_or c.1]
theorem Stg_end {s : ByteArray} {T : List Int} {D : Nat} (h : Stg s T D s.size) : Stg s T (D + 1) 0 := ⟨h.1, fun E hE => by rw [h.2 E hE, stg_next]⟩
theorem Stg_none {s : ByteArray} {T : List Int} {D : Nat} (h : Stg s T D 0) (hn : VV s D = 0) : Stg s T (D + 1) 0 := by
  have key : ∀ j, Stg s T D j := by
    intro j
    induction j with
    | zero => exact h
    | succ j ih => exact Stg_skip ih (.inl hn)
  exact Stg_end (key s.size)
theorem Stg_at {s : ByteArray} {T : List Int} {D j : Nat} (h : Stg s T D j) (hD : D < 2 ^ s.size) : rd T (D : Int) = VV s D := by
  rw [h.2 D hD, stg_done s D D j (Nat.le_refl _)]
theorem Stg_start (s : ByteArray) : Stg s ((List.replicate (2 ^ s.size) 0).set 0 1) 0 0 := by
  refine ⟨by simp, fun E hE => ?_⟩
  rw [show (0 : Nat) = 0 from rfl, rd_set_nat _ 0 E 1 (by simp; exact Nat.two_pow_pos _)]
  unfold stg e0
  rw [sumN_zero _ _ (fun g _ => if_neg (by omega))]
  by_cases e : E = 0
  · rw [if_pos e, if_pos e]; rfl
  · rw [if_neg e, if_neg e]
    unfold rd
    rw [Int.toNat_natCast, List.getD_eq_getElem?_getD, List.getElem?_replicate]
    rw [if_pos hE]; rfl
def cntR (s : ByteArray) : Int × Int := if wanB s = true then (VV s (2 ^ s.size - 1), 0) else (0, 7)
section
variable (s : ByteArray) (h2 : 2 ≤ s.size) (h12 : s.size ≤ 12) (hl : ltrs s)
include h2 h12 hl
omit h2 hl in
theorem pow_le : 2 ^ s.size ≤ 4096 := by
  have : 2 ^ s.size ≤ 2 ^ 12 := Nat.pow_le_pow_right (by omega) h12
  omega
omit h2 hl in
theorem idx_ (D j : Nat) (hj : j < s.size) (hD : D < 2 ^ s.size) : Go.bits .or .i64 (D : Int) (shl .i64 1 (j : Int)) = ((D ||| 2 ^ j : Nat) : Int) := by
  have hp := pow_le s h12
  have hp2 : 2 ^ j ≤ 2 ^ 12 := Nat.pow_le_pow_right (by omega) (by omega)
  rw [shl1_ j (by omega), or_nat _ _ (by omega) (by omega)]
theorem implCount_1 (D : Nat) (hD : D < 2 ^ s.size) (r : Int × Int) (hn : ∀ T, Stg s T (D + 1) 0 → Ev (fun k => impl_CountOrders.l0 k s T ((2 ^ s.size : Nat) : Int) ((D + 1 : Nat) : Int)) r) : ∀ (d j : Nat) (T : List Int), s.size - j = d → j ≤ s.size → Stg s T D j → Ev (fun k => impl_CountOrders.l1 k s T (D : Int) (VV s D) ((2 ^ s.size : Nat) : Int) (D : Int) (s.size : Int) (j : Int)) r := by
  have hp := pow_le s h12
  intro d
  induction d with
  | zero =>
    intro j T hd hj hT
    obtain rfl : j = s.size := by omega
    refine Ev.step (h := fun k => impl_CountOrders.l0 k s T ((2 ^ s.size : Nat) : Int) ((D + 1 : Nat) : Int)) (fun k => ?_) (hn T (Stg_end hT))
    simp only [impl_CountOrders.l1]
    rw [if_neg (by omega), w64 (n := (D : Int) + 1) (by omega) (by omega)]; rfl
  | succ d ih =>
    intro j T hd hj hT
    have hM := MayFollow_ s h2 h12 hl D j (by omega)
    have skip : (VV s D = 0 ∨ fol s s.size (fun i => D.testBit i) j = false) → Ev (fun k => impl_CountOrders.l1 k s T (D : Int) (VV s D) ((2 ^ s.size : Nat) : Int) (D : Int) (s.size : Int) (wrap64 ((j : Int) + 1))) r := by
      intro h
      rw [w64 (by omega) (by omega)]
      exact ih (j + 1) T (by omega) (by omega) (Stg_skip hT h)
    by_cases v : VV s D > 0
    · by_cases f : fol s s.size (fun i => D.testBit i) j = true
      · have hlt : D ||| 2 ^ j < 2 ^ s.size := Nat.or_lt_two_pow hD (Nat.pow_lt_pow_right (by omega) (by omega))
        have hb := stg_bd s h12 (D ||| 2 ^ j) D j
        have hv := VV_bd s h12 D
        refine Ev.step (fun k => ?_) (ih (j + 1) _ (by omega) (by omega) (Stg_put hT (by omega) hD f))
        simp only [impl_CountOrders.l1]
        rw [if_pos (by omega), if_pos v, hM, f]; simp only [Option.bind_some, if_true]
        rw [if_pos (by omega), idx_ s h12 D j (by omega) hD, if_pos (by omega), if_pos (by rw [hT.1]; omega), Int.toNat_natCast, w64 (n := (j : Int) + 1) (by omega) (by omega), w64 (n := rd T ((D ||| 2 ^ j : Nat) : Int) + VV s D) (by rw [hT.2 _ hlt]; omega) (by rw [hT.2 _ hlt]; omega)]; rfl
      · have f : fol s s.size (fun i => D.testBit i) j = false := by simpa using f
        refine Ev.step (fun k => ?_) (skip (.inr f))
        simp only [impl_CountOrders.l1]
        rw [if_pos (by omega), if_pos v, hM, f]; simp
    · have v0 : VV s D = 0 := by have := VV_nonneg s D; omega
      refine Ev.step (fun k => ?_) (skip (.inl v0))
      simp only [impl_CountOrders.l1]
      rw [if_pos (by omega), if_neg v]
theorem implCount_0 : ∀ (d D : Nat) (T : List Int), 2 ^ s.size - D = d → D ≤ 2 ^ s.size → Stg s T D 0 → Ev (fun k => impl_CountOrders.l0 k s T ((2 ^ s.size : Nat) : Int) (D : Int)) (VV s (2 ^ s.size - 1), 0) := by
  have hp := pow_le s h12
  have hp0 := Nat.two_pow_pos s.size
  intro d
  induction d with
  | zero =>
    intro D T hd hD hT
    refine Ev.now (fun k => ?_)
    have e : ((T.length : Int) - 1) = ((2 ^ s.size - 1 : Nat) : Int) := by rw [hT.1]; omega
    simp only [impl_CountOrders.l0]
    rw [if_neg (by omega), w64 (by rw [hT.1]; omega) (by rw [hT.1]; omega), e, if_pos (by omega), if_pos (by rw [hT.1]; omega), hT.2 _ (by omega), stg_done _ _ _ _ (by omega)]
  | succ d ih =>
    intro D T hd hD hT
    refine Ev.step (fun k => ?_) (implCount_1 s h2 h12 hl D (by omega) _ (fun T' hT' => ih (D + 1) T' (by omega) (by omega) hT') s.size 0 T rfl (by omega) hT)
    simp only [impl_CountOrders.l0]
    rw [if_pos (by omega), if_pos (by omega), if_pos (by rw [hT.1]; omega), Stg_at hT (by omega)]; rfl
/-- The gores of a set, from j on. -/
def bl (D : Nat) : Nat → Nat → List Nat
  | 0, _ => []
  | d + 1, j => if D.testBit j = true then j :: bl D d (j + 1) else bl D d (j + 1)
omit h2 h12 hl in
theorem bl_mem (D : Nat) : ∀ (d j i : Nat), i ∈ bl D d j ↔ j ≤ i ∧ i < j + d ∧ D.testBit i = true
  | 0, j, i => by simp [bl]; omega
  | d + 1, j, i => by
    have ih := bl_mem D d (j + 1) i
    unfold bl
    by_cases c : D.testBit j = true
    · rw [if_pos c, List.mem_cons, ih]
      constructor
      · rintro (rfl | ⟨a, b, e⟩)
        · exact ⟨Nat.le_refl _, by omega, c⟩
        · exact ⟨by omega, by omega, e⟩
      · rintro ⟨a, b, e⟩
        by_cases z : i = j
        · exact .inl z
        · exact .inr ⟨by omega, by omega, e⟩
    · rw [if_neg c, ih]
      constructor
      · rintro ⟨a, b, e⟩; exact ⟨by omega, by omega, e⟩
      · rintro ⟨a, b, e⟩
        by_cases z : i = j
        · subst z; exact absurd e c
        · exact ⟨by omega, by omega, e⟩
omit h2 h12 hl in
theorem bl_len (D : Nat) : ∀ (d j : Nat), (bl D d j).length ≤ d
  | 0, _ => Nat.le_refl _
  | d + 1, j => by have := bl_len D d (j + 1); unfold bl; split <;> simp <;> omega
omit hl in
theorem specCount_1 (D : Nat) (T : List Int) (r : Int × Int) (hn : Ev (fun k => spec_CountOrders.l2 k s (s.size : Int) T (D : Int) (castL (bl D s.size 0)) 0) r) : ∀ (d j : Nat) (a : List Int), s.size - j = d → j ≤ s.size → a.length ≤ j → a ++ castL (bl D d j) = castL (bl D s.size 0) → Ev (fun k => spec_CountOrders.l1 k s (s.size : Int) T (D : Int) a (j : Int)) r := by
  intro d
  induction d with
  | zero =>
    intro j a hd hj ha he
    refine Ev.step (fun k => ?_) hn
    simp only [spec_CountOrders.l1]
    rw [if_neg (by omega), ← he]; simp [bl, castL]
  | succ d ih =>
    intro j a hd hj ha he
    have hu := u64s (j : Int) (by omega) (by omega)
    by_cases c : D.testBit j = true
    · refine Ev.step (fun k => ?_) (ih (j + 1) (a ++ [(j : Int)]) (by omega) (by omega) (by simp; omega) (by rw [← he]; simp only [bl, if_pos c, castL, List.map_cons, List.append_assoc, List.singleton_append]))
      simp only [spec_CountOrders.l1]
      rw [if_pos (by omega), hu, if_pos (by omega), bit_ D j (by omega), if_pos (by rw [if_pos c]), if_pos (by omega), w64 (n := (j : Int) + 1) (by omega) (by omega)]; rfl
    · refine Ev.step (fun k => ?_) (ih (j + 1) a (by omega) (by omega) (by omega) (by rw [← he]; simp only [bl, if_neg c]))
      simp only [spec_CountOrders.l1]
      rw [if_pos (by omega), hu, if_pos (by omega), bit_ D j (by omega), if_neg (by rw [if_neg c]; omega), w64 (n := (j : Int) + 1) (by omega) (by omega)]; rfl
omit hl in
theorem specCount_2 (D : Nat) (hD : D < 2 ^ s.size) (r : Int × Int) (hn : ∀ T, Stg s T (D + 1) 0 → Ev (fun k => spec_CountOrders.l0 k s (s.size : Int) T ((D + 1 : Nat) : Int)) r) : ∀ (d j : Nat) (T : List Int), s.size - j = d → j ≤ s.size → Stg s T D j → Ev (fun k => spec_CountOrders.l2 k s (s.size : Int) T (D : Int) (castL (bl D s.size 0)) (j : Int)) r := by
  have hp := pow_le s h12
  intro d
  induction d with
  | zero =>
    intro j T hd hj hT
    obtain rfl : j = s.size := by omega
    refine Ev.step (fun k => ?_) (hn T (Stg_end hT))
    simp only [spec_CountOrders.l2]
    rw [if_neg (by omega), w64 (n := (D : Int) + 1) (by omega) (by omega)]; rfl
  | succ d ih =>
    intro j T hd hj hT
    have hu := u64s (j : Int) (by omega) (by omega)
    have skip : fol s s.size (fun i => D.testBit i) j = false → Ev (fun k => spec_CountOrders.l2 k s (s.size : Int) T (D : Int) (castL (bl D s.size 0)) (wrap64 ((j : Int) + 1))) r := by
      intro h
      rw [w64 (by omega) (by omega)]
      exact ih (j + 1) T (by omega) (by omega) (Stg_skip hT (.inr h))
    by_cases c : D.testBit j = true
    · have f : fol s s.size (fun i => D.testBit i) j = false := by unfold fol; simp [c]
      refine Ev.step (fun k => ?_) (skip f)
      simp only [spec_CountOrders.l2]
      rw [if_pos (by omega), hu, if_pos (by omega), bit_ D j (by omega), if_neg (by rw [if_pos c]; omega)]
    · have hF := First_ s h2 h12 (castL (bl D s.size 0)) (by rw [castL_len]; have := bl_len D s.size 0; omega) (fun i => D.testBit i) (fun i hi => by rw [castL_mem, bl_mem]; exact ⟨fun h => ⟨by omega, by omega, h⟩, fun h => h.2.2⟩) j (by omega) (by simpa using c)
      refine Ev.step (h := fun k => (spec_l18First.f k s (castL (bl D s.size 0)) (j : Int)).bind fun t => if t = true then spec_CountOrders.l2 k s (s.size : Int) (T.set (D ||| 2 ^ j) (wrap64 (rd T ((D ||| 2 ^ j : Nat) : Int) + rd T (D : Int)))) (D : Int) (castL (bl D s.size 0)) (wrap64 ((j : Int) + 1)) else spec_CountOrders.l2 k s (s.size : Int) T (D : Int) (castL (bl D s.size 0)) (wrap64 ((j : Int) + 1))) (fun k => ?_) (Ev.bind hF ?_)
      · have hlt : D ||| 2 ^ j < 2 ^ s.size := Nat.or_lt_two_pow hD (Nat.pow_lt_pow_right (by omega) (by omega))
        simp only [spec_CountOrders.l2]
        rw [if_pos (by omega), hu, if_pos (by omega), bit_ D j (by omega), if_pos (by rw [if_neg c]), idx_ s h12 D j (by omega) hD, if_pos (show (0 : Int) ≤ ((D ||| 2 ^ j : Nat) : Int) by omega), if_pos (show ((D ||| 2 ^ j : Nat) : Int) < (T.length : Int) by rw [hT.1]; omega), if_pos (show (0 : Int) ≤ (D : Int) by omega), if_pos (show (D : Int) < (T.length : Int) by rw [hT.1]; omega), Int.toNat_natCast]
      · cases f : fol s s.size (fun i => D.testBit i) j with
        | false => exact Ev.eq (fun k => by rw [if_neg (by simp)]) (skip f)
        | true =>
          have hlt : D ||| 2 ^ j < 2 ^ s.size := Nat.or_lt_two_pow hD (Nat.pow_lt_pow_right (by omega) (by omega))
          have hb := stg_bd s h12 (D ||| 2 ^ j) D j
          have hv := VV_bd s h12 D
          have hv0 := VV_nonneg s D
          refine Ev.eq (fun k => ?_) (ih (j + 1) _ (by omega) (by omega) (Stg_put hT (by omega) hD f))
          rw [if_pos rfl, Stg_at hT hD, w64 (n := (j : Int) + 1) (by omega) (by omega), w64 (n := rd T ((D ||| 2 ^ j : Nat) : Int) + VV s D) (by rw [hT.2 _ hlt]; omega) (by rw [hT.2 _ hlt]; omega)]; rfl
omit hl in
theorem specCount_0 : ∀ (d D : Nat) (T : List Int), 2 ^ s.size - D = d → D ≤ 2 ^ s.size → Stg s T D 0 → Ev (fun k => spec_CountOrders.l0 k s (s.size : Int) T (D : Int)) (VV s (2 ^ s.size - 1), 0) := by
  have hp := pow_le s h12
  have hp0 := Nat.two_pow_pos s.size
  intro d
  induction d with
  | zero =>
    intro D T hd hD hT
    refine Ev.now (fun k => ?_)
    have e : ((T.length : Int) - 1) = ((2 ^ s.size - 1 : Nat) : Int) := by rw [hT.1]; omega
    simp only [spec_CountOrders.l0]
    rw [if_neg (by rw [hT.1]; omega), w64 (by rw [hT.1]; omega) (by rw [hT.1]; omega), e, if_pos (by omega), if_pos (by rw [hT.1]; omega), hT.2 _ (by omega), stg_done _ _ _ _ (by omega)]
  | succ d ih =>
    intro D T hd hD hT
    by_cases z : rd T (D : Int) = 0
    · refine Ev.step (fun k => ?_) (ih (D + 1) T (by omega) (by omega) (Stg_none hT (by rw [← Stg_at hT (by omega)]; exact z)))
      simp only [spec_CountOrders.l0]
      rw [if_pos (by rw [hT.1]; omega), if_pos (by omega), if_pos z, w64 (n := (D : Int) + 1) (by omega) (by omega)]; rfl
    · refine Ev.step (fun k => ?_) (specCount_1 s h2 h12 D T _ (specCount_2 s h2 h12 D (by omega) _ (fun T' hT' => ih (D + 1) T' (by omega) (by omega) hT') s.size 0 T rfl (by omega) hT) s.size 0 [] rfl (by omega) (by simp) (by simp))
      simp only [spec_CountOrders.l0]
      rw [if_pos (by rw [hT.1]; omega), if_pos (by omega), if_neg z]; rfl
end
theorem SpecCount_ (s : ByteArray) (hs : s.size ≤ 1048576) : Ev (fun k => spec_CountOrders.f k s) (cntR s) := by
  unfold cntR
  by_cases w : wanB s = true
  · obtain ⟨w1, w2, w3⟩ := wanB_says w
    have hp := pow_le s w2
    have hp0 := Nat.two_pow_pos s.size
    rw [if_pos w]
    refine Ev.eq (h := fun k => (spec_l18Wanted.f k s).bind fun t => if t = true then spec_CountOrders.l0 k s (s.size : Int) ((List.replicate (2 ^ s.size) 0).set 0 1) ((0 : Nat) : Int) else some (0, 7)) (fun k => ?_) (Ev.bind (SpecWanted_ s hs) (Ev.eq (fun k => by rw [if_pos w]) (specCount_0 s w1 w2 (2 ^ s.size) 0 _ (by omega) (by omega) (Stg_start s))))
    unfold spec_CountOrders.f
    congr 1; funext t
    cases t with
    | false => rfl
    | true =>
      have hlen : 0 < ((List.replicate (2 ^ s.size) (0 : Int)).length : Int) := by rw [List.length_replicate]; omega
      rw [if_pos rfl, if_pos rfl, u64s (s.size : Int) (by omega) (by omega), shl1_ s.size (by omega), if_pos (show (0 : Int) ≤ (s.size : Int) by omega), if_pos (show (0 : Int) ≤ ((2 ^ s.size : Nat) : Int) by omega), Int.toNat_natCast, if_pos (show 2 ^ s.size ≤ 35184372088832 by omega)]
      simp only [Option.bind_some]
      rw [if_pos hlen]; rfl
  · rw [if_neg w]
    refine Ev.eq (h := fun k => (spec_l18Wanted.f k s).bind fun t => if t = true then (if 0 ≤ (IntKind.u64.wrap ((s.size : Int))) then (if 0 ≤ (shl .i64 1 (IntKind.u64.wrap ((s.size : Int)))) then (if (shl .i64 1 (IntKind.u64.wrap ((s.size : Int))) : Int).toNat ≤ 35184372088832 then ((some (List.replicate (shl .i64 1 (IntKind.u64.wrap ((s.size : Int))) : Int).toNat 0 : List Int)).bind fun y107 => (if 0 < (y107.length : Int) then (spec_CountOrders.l0 k s (s.size : Int) (y107.set (0 : Int).toNat 1) 0) else (none))) else (none)) else (none)) else (none)) else some (0, 7)) (fun k => rfl) (Ev.bind (SpecWanted_ s hs) ⟨0, fun k _ => if_neg w⟩)
theorem ImplCount_ (s : ByteArray) : Ev (fun k => impl_CountOrders.f k s) (cntR s) := by
  unfold cntR
  by_cases w : wanB s = true
  · obtain ⟨w1, w2, w3⟩ := wanB_says w
    have hp := pow_le s w2
    have hp0 := Nat.two_pow_pos s.size
    rw [if_pos w]
    refine Ev.eq (h := fun k => impl_CountOrders.l0 k s ((List.replicate (2 ^ s.size) 0).set 0 1) ((2 ^ s.size : Nat) : Int) ((0 : Nat) : Int)) (fun k => ?_) (implCount_0 s w1 w2 w3 (2 ^ s.size) 0 _ (by omega) (by omega) (Stg_start s))
    unfold impl_CountOrders.f
    rw [AreSeams_, w]; simp only [Option.bind_some, if_true]
    have hlen : 0 < ((List.replicate (2 ^ s.size) (0 : Int)).length : Int) := by rw [List.length_replicate]; omega
    rw [shl1_ s.size (by omega), if_pos (show (0 : Int) ≤ ((2 ^ s.size : Nat) : Int) by omega), Int.toNat_natCast, if_pos (show 2 ^ s.size ≤ 35184372088832 by omega), if_pos hlen, List.length_replicate]; rfl
  · rw [if_neg w]
    exact ⟨0, fun k _ => by unfold impl_CountOrders.f; rw [AreSeams_, show wanB s = false by simpa using w]; rfl⟩

theorem FnExactCountOrders : laws_FnExactCountOrders.Pure := by
  intro s _
  by_cases hb : (s.size : Int) > 1048576
  · exact ⟨0, by unfold laws_FnExactCountOrders.f; rw [if_pos hb]⟩
  have hs : s.size ≤ 1048576 := by omega
  obtain ⟨K1, e1⟩ := SpecCount_ s hs
  obtain ⟨K2, e2⟩ := ImplCount_ s
  dsimp only at e1 e2
  refine ⟨K1 + K2, ?_⟩
  unfold laws_FnExactCountOrders.f
  rw [if_neg hb, e1 _ (by omega)]; simp only [Option.bind_some]
  rw [e2 _ (by omega)]; simp

end Go.Proofs.YtfpddpkloplpeaaDoor.Pure
