/- General facts on numbers and lists that the plain laws of this seat lean on: no program stands in it. -/
import Derived.Test.YtmgljagkmaoopaaGreatWMore
set_option linter.unusedVariables false
set_option linter.unusedSimpArgs false
namespace Go.Proofs.YtmgljagkmaoopaaGreat.Base
open Go Go.RowKit Go.Proofs.YtmgljagkmaoopaaGreatW.PrintWords Go.Proofs.YtmgljagkmaoopaaGreatW.PrintLast Go.Proofs.YtmgljagkmaoopaaGreatW.PrintMore
theorem w64 {n : Int} (h1 : -9223372036854775808 ≤ n) (h2 : n ≤ 9223372036854775807) : wrap64 n = n := by
  unfold wrap64; omega
theorem floor_eq (a b : Int) (hb : 0 < b) : (if Int.tmod a b < 0 then Int.tdiv a b - 1 else Int.tdiv a b) = a / b := by
  rw [Int.tdiv_eq_ediv, Int.tmod_eq_emod]
  have hs : b.sign = 1 := Int.sign_eq_one_of_pos hb
  have hn : ((b.natAbs : Nat) : Int) = b := Int.natAbs_of_nonneg (by omega)
  have h1 := Int.emod_nonneg a (b := b) (by omega)
  have h2 := Int.emod_lt_of_pos a hb
  by_cases c : 0 ≤ a ∨ b ∣ a
  · rw [if_pos c, if_pos c]
    rw [if_neg (by omega)]; omega
  · rw [if_neg c, if_neg c, hs, hn]
    rw [if_pos (by omega)]; omega
theorem ediv_bounds (a b M : Int) (hb : 0 < b) (h1 : -M ≤ a) (h2 : a ≤ M) (hM : 0 ≤ M) : -M ≤ a / b ∧ a / b ≤ M := by
  constructor
  · apply Int.le_ediv_of_mul_le hb
    have : M * 1 ≤ M * b := Int.mul_le_mul_of_nonneg_left (by omega) hM
    have e : -M * b = -(M * b) := by rw [Int.neg_mul]
    omega
  · by_cases c : 0 ≤ a
    · have := Int.ediv_le_self b c; omega
    · have := Int.ediv_neg_of_neg_of_pos (by omega : a < 0) hb; omega
theorem tmod_eq (a b : Int) (hb : 0 < b) : Int.tmod a b = if 0 ≤ a then a % b else -(-a % b) := by
  by_cases h : 0 ≤ a
  · rw [if_pos h, Int.tmod_eq_emod_of_nonneg h]
  · rw [if_neg h]
    have e : Int.tmod a b = -(Int.tmod (-a) b) := by rw [Int.neg_tmod, Int.neg_neg]
    rw [e, Int.tmod_eq_emod_of_nonneg (by omega)]
def near (a b : Int) : Int := (2 * a + b) / (2 * b)
def ab (a : Int) : Int := if a < 0 then -a else a
def wr (a : Int) : Int := (a + 648000) % 1296000 - 648000
theorem wr_range (a : Int) : -648000 ≤ wr a ∧ wr a ≤ 647999 := by unfold wr; omega
theorem near_bounds (a b M : Int) (hb : 0 < b) (h1 : -M * b ≤ a) (h2 : a ≤ M * b) : -M ≤ near a b ∧ near a b ≤ M := by
  unfold near
  constructor
  · apply Int.le_ediv_of_mul_le (by omega)
    have e : -M * (2 * b) = 2 * (-M * b) := by rw [Int.mul_left_comm]
    omega
  · have : (2 * a + b) / (2 * b) < M + 1 := by
      apply Int.ediv_lt_of_lt_mul (by omega)
      have e : (M + 1) * (2 * b) = 2 * (M * b) + 2 * b := by rw [Int.add_mul, Int.mul_left_comm]; omega
      omega
    omega
theorem drop_rd (l : List Int) (i : Int) (h0 : 0 ≤ i) (h : i < l.length) : l.drop i.toNat = rd l i :: l.drop (i + 1).toNat := by
  rw [show (i + 1).toNat = i.toNat + 1 by omega, List.drop_eq_getElem_cons (by omega)]
  unfold rd
  rw [List.getD_eq_getElem?_getD, List.getElem?_eq_getElem (by omega)]
  rfl
theorem rd_in (l : List Int) (i : Int) (h0 : 0 ≤ i) (h : i < l.length) : rd l i ∈ l := by
  unfold rd
  rw [List.getD_eq_getElem?_getD, List.getElem?_eq_getElem (by omega)]
  exact List.getElem_mem _
theorem rd_same (l : List Int) (i : Int) (v : Int) (h0 : 0 ≤ i) (h : i < l.length) : rd (l.set i.toNat v) i = v := by
  unfold rd; simp [List.getD_eq_getElem?_getD, List.getElem?_set, show i.toNat < l.length by omega]
theorem rd_other (l : List Int) (i j : Int) (v : Int) (h0 : 0 ≤ i) (h1 : 0 ≤ j) (h : i ≠ j) : rd (l.set i.toNat v) j = rd l j := by
  unfold rd; simp [List.getD_eq_getElem?_getD, List.getElem?_set, show ¬ i.toNat = j.toNat by omega]
theorem rd_map (f : Nat → Int) (n : Nat) (i : Int) (h0 : 0 ≤ i) (h : i < n) : rd ((List.range n).map f) i = f i.toNat := by
  unfold rd
  rw [List.getD_eq_getElem?_getD, List.getElem?_map, List.getElem?_range (by omega)]
  rfl
def from_ (f : Int → Int) (i : Int) (d : Nat) : List Int := (List.range d).map fun (j : Nat) => f (i + (j : Int))
theorem from_len (f : Int → Int) (i : Int) (d : Nat) : (from_ f i d).length = d := by simp [from_]
theorem rd_from (f : Int → Int) (d : Nat) (i : Int) (h0 : 0 ≤ i) (h : i < d) : rd (from_ f 0 d) i = f i := by
  unfold from_
  rw [rd_map _ _ _ h0 h]; congr 1; omega
end Go.Proofs.YtmgljagkmaoopaaGreat.Base
