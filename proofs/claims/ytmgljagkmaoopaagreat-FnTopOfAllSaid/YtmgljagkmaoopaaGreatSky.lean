/- Plain mathematics of the rule of sines, of heights and of hours of setting: no program stands in it. -/
import Derived.Test.YtmgljagkmaoopaaGreatBase
set_option linter.unusedVariables false
set_option linter.unusedSimpArgs false
namespace Go.Proofs.YtmgljagkmaoopaaGreat.Base
open Go Go.RowKit Go.Proofs.YtmgljagkmaoopaaGreatW.PrintWords Go.Proofs.YtmgljagkmaoopaaGreatW.PrintLast Go.Proofs.YtmgljagkmaoopaaGreatW.PrintMore
def pp (x : Int) : Int := x * (648000 - x)
def sp (p : Int) : Int := near (16000000 * p) (2099520000000 - 4 * p)
def sn0 (x : Int) : Int := sp (pp x)
def sn (a : Int) : Int := if a % 1296000 ≥ 648000 then -(sn0 (a % 1296000 - 648000)) else sn0 (a % 1296000)
def cs (a : Int) : Int := sn (a + 324000)
theorem pp_bounds (x : Int) (h0 : 0 ≤ x) (h1 : x ≤ 648000) : 0 ≤ pp x ∧ pp x ≤ 104976000000 := by
  unfold pp
  constructor
  · exact Int.mul_nonneg h0 (by omega)
  · have e : x * (648000 - x) = 104976000000 - (x - 324000) * (x - 324000) := by grind
    have : 0 ≤ (x - 324000) * (x - 324000) := by
      by_cases h : 0 ≤ x - 324000
      · exact Int.mul_nonneg h h
      · exact Int.mul_nonneg_of_nonpos_of_nonpos (by omega) (by omega)
    omega
theorem near_mono (a b a' b' : Int) (ha : 0 ≤ a) (haa : a ≤ a') (hb : 0 < b') (hbb : b' ≤ b) : near a b ≤ near a' b' := by
  unfold near
  apply Int.le_ediv_of_mul_le (by omega)
  have h := Int.ediv_mul_le (2 * a + b) (b := 2 * b) (by omega)
  have hn : 0 ≤ (2 * a + b) / (2 * b) := Int.ediv_nonneg (by omega) (by omega)
  generalize (2 * a + b) / (2 * b) = t at *
  by_cases ht : t = 0
  · subst ht; omega
  · have h1 : (2 * t - 1) * b' ≤ (2 * t - 1) * b := Int.mul_le_mul_of_nonneg_left hbb (by omega)
    have e1 : (2 * t - 1) * b' = t * (2 * b') - b' := by grind
    have e2 : (2 * t - 1) * b = t * (2 * b) - b := by grind
    omega
theorem sp_mono (p q : Int) (h0 : 0 ≤ p) (h : p ≤ q) (h1 : q ≤ 104976000000) : sp p ≤ sp q := by
  unfold sp; exact near_mono _ _ _ _ (by omega) (by omega) (by omega) (by omega)
theorem sp_bounds (p : Int) (h0 : 0 ≤ p) (h1 : p ≤ 104976000000) : 0 ≤ sp p ∧ sp p ≤ 1000000 := by
  unfold sp
  constructor
  · unfold near; exact Int.ediv_nonneg (by omega) (by omega)
  · exact (near_bounds _ _ 1000000 (by omega) (by omega) (by omega)).2
theorem sn0_bounds (x : Int) (h0 : 0 ≤ x) (h1 : x ≤ 648000) : 0 ≤ sn0 x ∧ sn0 x ≤ 1000000 := by
  obtain ⟨a, b⟩ := pp_bounds x h0 h1
  exact sp_bounds _ a b
theorem sn0_up (x y : Int) (h0 : 0 ≤ x) (h : x ≤ y) (h1 : y ≤ 324000) : sn0 x ≤ sn0 y := by
  unfold sn0
  refine sp_mono _ _ (pp_bounds x h0 (by omega)).1 ?_ (pp_bounds y (by omega) (by omega)).2
  have e : pp y - pp x = (y - x) * (648000 - x - y) := by unfold pp; grind
  have : 0 ≤ (y - x) * (648000 - x - y) := Int.mul_nonneg (by omega) (by omega)
  omega
theorem sn0_sym (x : Int) : sn0 (648000 - x) = sn0 x := by
  unfold sn0; congr 1; unfold pp; grind
theorem sn0_down (x y : Int) (h0 : 324000 ≤ x) (h : x ≤ y) (h1 : y ≤ 648000) : sn0 y ≤ sn0 x := by
  have := sn0_up (648000 - y) (648000 - x) (by omega) (by omega) (by omega)
  rw [sn0_sym, sn0_sym] at this; exact this
theorem sn_bounds (a : Int) : -1000000 ≤ sn a ∧ sn a ≤ 1000000 := by
  unfold sn
  split
  · have := sn0_bounds (a % 1296000 - 648000) (by omega) (by omega); omega
  · have := sn0_bounds (a % 1296000) (by omega) (by omega); omega
theorem cs_bounds (a : Int) : -1000000 ≤ cs a ∧ cs a ≤ 1000000 := sn_bounds _
theorem sn_low (a : Int) (h0 : 0 ≤ a) (h1 : a ≤ 648000) : sn a = sn0 a := by
  unfold sn
  by_cases h : a = 648000
  · subst h; decide
  · rw [if_neg (by omega), show a % 1296000 = a by omega]
theorem sn_high (a : Int) (h0 : 648000 ≤ a) (h1 : a ≤ 1296000) : sn a = -(sn0 (a - 648000)) := by
  unfold sn
  by_cases h : a = 1296000
  · subst h; decide
  · rw [if_pos (by omega), show a % 1296000 = a by omega]
theorem cs_lat (a : Int) (h0 : -324000 ≤ a) (h1 : a ≤ 324000) : cs a = sn0 (a + 324000) := sn_low _ (by omega) (by omega)
theorem cs_nonneg (a : Int) (h0 : -324000 ≤ a) (h1 : a ≤ 324000) : 0 ≤ cs a := by
  rw [cs_lat a h0 h1]; exact (sn0_bounds _ (by omega) (by omega)).1
theorem cs_wr (h : Int) : cs (wr h) = cs h := by
  unfold cs sn wr
  rw [show ((h + 648000) % 1296000 - 648000 + 324000) % 1296000 = (h + 324000) % 1296000 by omega]
theorem cs_down (x y : Int) (h0 : 0 ≤ x) (h : x ≤ y) (h1 : y ≤ 648000) : cs y ≤ cs x := by
  unfold cs
  by_cases hx : x ≤ 324000
  · rw [sn_low (x + 324000) (by omega) (by omega)]
    by_cases hy : y ≤ 324000
    · rw [sn_low (y + 324000) (by omega) (by omega)]; exact sn0_down _ _ (by omega) (by omega) (by omega)
    · rw [sn_high (y + 324000) (by omega) (by omega)]
      have := sn0_bounds (y + 324000 - 648000) (by omega) (by omega)
      have := sn0_bounds (x + 324000) (by omega) (by omega)
      omega
  · rw [sn_high (x + 324000) (by omega) (by omega), sn_high (y + 324000) (by omega) (by omega)]
    have := sn0_up (x + 324000 - 648000) (y + 324000 - 648000) (by omega) (by omega) (by omega)
    omega
def hs (l d h : Int) : Int := sn l * sn d * 1000000 + cs l * cs d * cs (wr h)
def alt (l d h : Int) : Int := mx (-1000000) (mn 1000000 (hs l d h / 1000000000000))
def bup (l d h : Int) : Bool := decide (alt l d h ≥ 0)
theorem mul_bounds (a b M N : Int) (h1 : -M ≤ a) (h2 : a ≤ M) (h3 : -N ≤ b) (h4 : b ≤ N) (hM : 0 ≤ M) (hN : 0 ≤ N) : -(M * N) ≤ a * b ∧ a * b ≤ M * N := by
  have key : ∀ x y : Int, 0 ≤ x → x ≤ M → 0 ≤ y → y ≤ N → 0 ≤ x * y ∧ x * y ≤ M * N := fun x y hx hx2 hy hy2 =>
    ⟨Int.mul_nonneg hx hy, Int.mul_le_mul hx2 hy2 hy hM⟩
  by_cases ha : 0 ≤ a
  · by_cases hb : 0 ≤ b
    · have := key a b ha h2 hb h4; omega
    · have := key a (-b) ha h2 (by omega) (by omega); rw [Int.mul_neg] at this; omega
  · by_cases hb : 0 ≤ b
    · have := key (-a) b (by omega) (by omega) hb h4; rw [Int.neg_mul] at this; omega
    · have := key (-a) (-b) (by omega) (by omega) (by omega) (by omega); rw [Int.neg_mul_neg] at this; omega
theorem up_iff (l d h : Int) : bup l d h = true ↔ 0 ≤ hs l d h := by
  have e : hs l d h / 1000000000000 ≥ 0 ↔ 0 ≤ hs l d h := by
    constructor
    · intro h0; have := Int.ediv_mul_le (hs l d h) (b := 1000000000000) (by omega); omega
    · intro h0; exact Int.ediv_nonneg h0 (by omega)
  rw [← e]
  unfold bup alt mx mn
  rw [decide_eq_true_eq]
  split <;> split <;> omega
theorem hs_hour (l d x y : Int) (hl : -324000 ≤ l ∧ l ≤ 324000) (hd : -324000 ≤ d ∧ d ≤ 324000) (h0 : 0 ≤ x) (h : x ≤ y) (h1 : y ≤ 648000) : hs l d y ≤ hs l d x := by
  unfold hs
  rw [cs_wr, cs_wr]
  have h2 := cs_down x y h0 h h1
  have h3 : 0 ≤ cs l * cs d := Int.mul_nonneg (cs_nonneg l hl.1 hl.2) (cs_nonneg d hd.1 hd.2)
  have := Int.mul_le_mul_of_nonneg_left h2 h3
  omega
theorem up_hour (l d x y : Int) (hl : -324000 ≤ l ∧ l ≤ 324000) (hd : -324000 ≤ d ∧ d ≤ 324000) (h0 : 0 ≤ x) (h : x ≤ y) (h1 : y ≤ 648000) (hu : bup l d y = true) : bup l d x = true := by
  rw [up_iff] at *
  have := hs_hour l d x y hl hd h0 h h1; omega
theorem up_last (l d : Int) : bup l d 647999 = bup l d 648000 := by
  unfold bup alt hs
  rw [show cs (wr 647999) = cs (wr 648000) by decide]
def least (p : Int → Bool) : Nat → Nat
  | 0 => 0
  | n + 1 => if least p n = n ∧ p (n : Int) = true then n + 1 else least p n
theorem least_says (p : Int → Bool) : ∀ n : Nat, least p n ≤ n ∧ (∀ j : Nat, j < least p n → p (j : Int) = true) ∧ (least p n < n → p (least p n : Int) = false)
  | 0 => ⟨Nat.le_refl _, fun j h => by simp [least] at h, fun h => by simp [least] at h⟩
  | n + 1 => by
    obtain ⟨h1, h2, h3⟩ := least_says p n
    simp only [least]
    by_cases c : least p n = n ∧ p (n : Int) = true
    · rw [if_pos c]
      refine ⟨Nat.le_refl _, fun j hj => ?_, fun h => by omega⟩
      by_cases e : j = n
      · subst e; exact c.2
      · exact h2 j (by omega)
    · rw [if_neg c]
      refine ⟨by omega, h2, fun h => ?_⟩
      by_cases e : least p n = n
      · rw [e] at c ⊢; simpa using c
      · exact h3 (by omega)
theorem least_is (p : Int → Bool) (n m : Nat) (hm : m ≤ n) (h1 : ∀ j : Nat, j < m → p (j : Int) = true) (h2 : m < n → p (m : Int) = false) : least p n = m := by
  obtain ⟨g1, g2, g3⟩ := least_says p n
  by_cases a : least p n < m
  · have := h1 _ a; have := g3 (by omega); simp_all
  · by_cases b : m < least p n
    · have := g2 _ b; have := h2 (by omega); simp_all
    · omega
def setm (l d s : Int) : Int := (least (fun j => bup l d (j * s)) (648000 / s).toNat : Nat)
theorem setm_bounds (l d s : Int) (hs : 1 ≤ s) : 0 ≤ setm l d s ∧ setm l d s ≤ 648000 / s := by
  have h := (least_says (fun j => bup l d (j * s)) (648000 / s).toNat).1
  have h2 : 0 ≤ 648000 / s := Int.ediv_nonneg (by omega) (by omega)
  unfold setm; omega
theorem setm_one (l d : Int) (h0 : bup l d 0 = true) (h1 : bup l d 648000 = false) : 1 ≤ setm l d 1 ∧ setm l d 1 ≤ 647999 ∧ bup l d (setm l d 1 - 1) = true ∧ bup l d (setm l d 1) = false := by
  obtain ⟨g1, g2, g3⟩ := least_says (fun j => bup l d (j * 1)) 648000
  have e : setm l d 1 = (least (fun j => bup l d (j * 1)) 648000 : Nat) := rfl
  rw [e]
  simp only [Int.mul_one] at *
  generalize least (fun j => bup l d j) 648000 = m at *
  have a : m ≠ 0 := by
    intro e; subst e
    have := g3 (by omega); simp_all
  have b : m ≤ 647999 := by
    by_cases c : m = 648000
    · subst c
      have := g2 647999 (by omega)
      have h := up_last l d
      simp only [Int.cast_ofNat_Int] at this
      simp_all
    · omega
  refine ⟨by omega, by omega, ?_, g3 (by omega)⟩
  have := g2 (m - 1) (by omega)
  rw [show ((m - 1 : Nat) : Int) = (m : Int) - 1 by omega] at this; exact this
theorem setm_is (l d s b : Int) (hs : 1 ≤ s) (h0 : 0 ≤ b) (h1 : b ≤ 648000 / s) (h2 : ∀ j, 0 ≤ j → j < b → bup l d (j * s) = true) (h3 : b < 648000 / s → bup l d (b * s) = false) : setm l d s = b := by
  have e : least (fun j => bup l d (j * s)) (648000 / s).toNat = b.toNat := by
    apply least_is
    · omega
    · intro j hj; exact h2 j (by omega) (by omega)
    · intro h; rw [show ((b.toNat : Nat) : Int) = b by omega]; exact h3 (by omega)
  unfold setm; rw [e]; omega
theorem setm_step (l d s : Int) (hl : -324000 ≤ l ∧ l ≤ 324000) (hd : -324000 ≤ d ∧ d ≤ 324000) (h0 : bup l d 0 = true) (h1 : bup l d 648000 = false) (hs : 1 ≤ s) (hd2 : 648000 / s * s = 648000) : setm l d 1 ≤ setm l d s * s ∧ setm l d s * s - setm l d 1 < s := by
  obtain ⟨g1, g2, g3⟩ := least_says (fun j => bup l d (j * s)) (648000 / s).toNat
  have hN : 0 ≤ 648000 / s := Int.ediv_nonneg (by omega) (by omega)
  have e : setm l d s = (least (fun j => bup l d (j * s)) (648000 / s).toNat : Nat) := rfl
  rw [e]
  generalize least (fun j => bup l d (j * s)) (648000 / s).toNat = m at *
  obtain ⟨a, b, c, f⟩ := setm_one l d h0 h1
  generalize setm l d 1 = t at *
  have hm : (m : Int) * s ≤ 648000 := by
    have := Int.mul_le_mul_of_nonneg_right (show (m : Int) ≤ 648000 / s by omega) (by omega : 0 ≤ s); omega
  have hm0 : 0 ≤ (m : Int) * s := Int.mul_nonneg (by omega) (by omega)
  have hz : m ≠ 0 := by
    intro e; subst e
    by_cases c : (0 : Nat) < (648000 / s).toNat
    · have := g3 c; simp at this; rw [h0] at this; exact absurd this (by simp)
    · have : 648000 / s = 0 := by omega
      rw [this] at hd2; omega
  have hf : bup l d ((m : Int) * s) = false := by
    by_cases c : m < (648000 / s).toNat
    · exact g3 c
    · rw [show (m : Int) = 648000 / s by omega, hd2]; exact h1
  have ht : bup l d (((m - 1 : Nat) : Int) * s) = true := g2 (m - 1) (by omega)
  rw [show ((m - 1 : Nat) : Int) = (m : Int) - 1 by omega, Int.sub_mul, Int.one_mul] at ht
  have hm1 : s ≤ (m : Int) * s := by
    have := Int.mul_le_mul_of_nonneg_right (show (1 : Int) ≤ m by omega) (by omega : 0 ≤ s); omega
  constructor
  · by_cases x : t ≤ (m : Int) * s
    · exact x
    · have := up_hour l d ((m : Int) * s) (t - 1) hl hd hm0 (by omega) (by omega) c; simp_all
  · by_cases x : (m : Int) * s - t < s
    · exact x
    · have := up_hour l d t ((m : Int) * s - s) hl hd (by omega) (by omega) (by omega) ht; simp_all
end Go.Proofs.YtmgljagkmaoopaaGreat.Base
