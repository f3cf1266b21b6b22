/- For all texts the program's OrderFor answers as the reference's does, in memory of its own. No condition. -/
import Derived.Test.YtfpddpkloplpeaaDoorQFnExactOrderForx3
import Derived.Test.YtfpddpkloplpeaaDoorBase
namespace Go.Proofs.YtfpddpkloplpeaaDoor.Pure
open Go Go.RowKit Go.Proofs.YtfpddpkloplpeaaDoor.QFnExactOrderFor Go.Proofs.YtfpddpkloplpeaaDoorW.PrintWords Go.Proofs.YtfpddpkloplpeaaDoorW.PrintLast Go.Proofs.YtfpddpkloplpeaaDoorW.PrintMore Go.Proofs.YtfpddpkloplpeaaDoor.Base
set_option linter.unusedVariables false
set_option linter.unusedSimpArgs false

theorem or_nat (a b : Nat) (ha : a < 2 ^ 62) (hb : b < 2 ^ 62) : Go.bits .or .i64 (a : Int) (b : Int) = ((a ||| b : Nat) : Int) := by
  have h : a ||| b < 2 ^ 62 := Nat.or_lt_two_pow ha hb
  have key : (BitVec.ofInt 64 (a : Int) ||| BitVec.ofInt 64 (b : Int)).toNat = a ||| b := by
    rw [BitVec.toNat_or, BitVec.toNat_ofInt, BitVec.toNat_ofInt]
    have e1 : ((a : Int) % ((2 ^ 64 : Nat) : Int)).toNat = a := by omega
    have e2 : ((b : Int) % ((2 ^ 64 : Nat) : Int)).toNat = b := by omega
    rw [e1, e2]
  show IntKind.i64.wrap ((BitVec.ofInt 64 (a : Int) ||| BitVec.ofInt 64 (b : Int)).toNat : Nat) = _
  rw [key, IntKind.wrap_i64]
  omega
theorem and1_ (n : Int) : Go.bits .and .i64 n 1 = n % 2 := by
  have h1 : (BitVec.ofInt 64 1).toNat = 2 ^ 1 - 1 := by decide
  have key : (BitVec.ofInt 64 n &&& BitVec.ofInt 64 1).toNat = (n % ((2 ^ 64 : Nat) : Int)).toNat % 2 ^ 1 := by
    rw [BitVec.toNat_and, BitVec.toNat_ofInt, h1, Nat.and_two_pow_sub_one_eq_mod]
  show IntKind.i64.wrap ((BitVec.ofInt 64 n &&& BitVec.ofInt 64 1).toNat : Nat) = n % 2
  rw [key, IntKind.wrap_i64]
  omega
theorem u64s (j : Int) (h0 : 0 ≤ j) (h1 : j < 64) : IntKind.u64.wrap j = j := by
  simp [IntKind.wrap, IntKind.bits, IntKind.signed]; omega
theorem bit_ (D j : Nat) (h : j < 64) : Go.bits .and .i64 (shr .i64 (D : Int) (j : Int)) 1 = if D.testBit j = true then 1 else 0 := by
  rw [and1_]
  unfold shr
  rw [Int.toNat_natCast, show min j IntKind.i64.bits = j from Nat.min_eq_left (by show j ≤ 64; omega)]
  have e : ((D : Int) / 2 ^ j) % 2 = ((D / 2 ^ j % 2 : Nat) : Int) := by
    rw [Int.natCast_emod, Int.natCast_ediv, Int.natCast_pow]; rfl
  rw [e, Nat.testBit_eq_decide_div_mod_eq]
  by_cases c : D / 2 ^ j % 2 = 1
  · rw [c, if_pos (by simp)]; rfl
  · rw [if_neg (by simpa using c), show D / 2 ^ j % 2 = 0 by omega]; rfl
theorem shl1_ (j : Nat) (h : j ≤ 61) : shl .i64 1 (j : Int) = ((2 ^ j : Nat) : Int) := by
  unfold shl
  rw [Int.toNat_natCast, show min j IntKind.i64.bits = j from Nat.min_eq_left (by show j ≤ 64; omega), IntKind.wrap_i64]
  have h1 : 2 ^ j ≤ 2 ^ 61 := Nat.pow_le_pow_right (by omega) h
  have h0 : 0 < 2 ^ j := Nat.two_pow_pos j
  have e : (1 * 2 ^ j : Int) = ((2 ^ j : Nat) : Int) := by rw [Int.one_mul, Int.natCast_pow]; rfl
  rw [e]
  omega

/-- From some number of rounds on the answer is r. -/
def Ev {α : Type} (g : Nat → Option α) (r : α) : Prop := ∃ K, ∀ k, K ≤ k → g k = some r
theorem Ev.step {α : Type} {g h : Nat → Option α} {r : α} (e : ∀ k, g (k + 1) = h k) (hr : Ev h r) : Ev g r := by
  obtain ⟨K, hK⟩ := hr
  refine ⟨K + 1, fun k hk => ?_⟩
  obtain ⟨k, rfl⟩ : ∃ m, k = m + 1 := ⟨k - 1, by omega⟩
  rw [e]; exact hK k (by omega)
theorem Ev.now {α : Type} {g : Nat → Option α} {r : α} (e : ∀ k, g (k + 1) = some r) : Ev g r := Ev.step (h := fun _ => some r) e ⟨0, fun _ _ => rfl⟩
theorem Ev.bind {α β : Type} {c : Nat → Option α} {f : Nat → α → Option β} {t : α} {r : β} (hc : Ev c t) (hf : Ev (fun k => f k t) r) : Ev (fun k => (c k).bind (f k)) r := by
  obtain ⟨K, hK⟩ := hc
  obtain ⟨L, hL⟩ := hf
  exact ⟨K + L, fun k hk => by show (c k).bind (f k) = some r; rw [hK k (by omega)]; exact hL k (by omega)⟩
theorem Ev.eq {α : Type} {g h : Nat → Option α} {r : α} (e : ∀ k, g k = h k) (hr : Ev h r) : Ev g r := by
  obtain ⟨K, hK⟩ := hr
  exact ⟨K, fun k hk => by rw [e]; exact hK k hk⟩

theorem rd_get (l : List Int) (j : Nat) (h : j < l.length) : rd l (j : Int) = l[j] := by
  unfold rd; rw [Int.toNat_natCast, List.getD_eq_getElem?_getD, List.getElem?_eq_getElem h]; rfl
theorem has_l (l : List Int) (x : Int) (hl : l.length ≤ 1048576) : ∀ (d : Nat) (i : Nat), l.length - i = d → i ≤ l.length → ∀ r : Bool, (r = true ↔ x ∈ l.drop i) → Ev (fun k => spec_l00Has.l0 k l x (i : Int)) r := by
  intro d
  induction d with
  | zero =>
    intro i hd hi r hr
    have : r = false := by
      cases r with
      | false => rfl
      | true => have := hr.1 rfl; rw [List.drop_eq_nil_of_le (by omega)] at this; cases this
    subst this
    refine Ev.now (fun k => ?_)
    simp only [spec_l00Has.l0]
    rw [if_neg (by omega)]
  | succ d ih =>
    intro i hd hi r hr
    rw [List.drop_eq_getElem_cons (show i < l.length by omega), List.mem_cons] at hr
    have e : ∀ k, spec_l00Has.l0 (k + 1) l x (i : Int) = if rd l (i : Int) = x then some true else spec_l00Has.l0 k l x ((i + 1 : Nat) : Int) := by
      intro k
      simp only [spec_l00Has.l0]
      rw [if_pos (by omega), if_pos (by omega), w64 (n := (i : Int) + 1) (by omega) (by omega)]; rfl
    have hg := rd_get l i (by omega)
    by_cases q : rd l (i : Int) = x
    · have : r = true := hr.2 (.inl (by rw [← q, hg]))
      subst this
      exact Ev.now (fun k => by rw [e, if_pos q])
    · refine Ev.step (fun k => by rw [e, if_neg q]) (ih (i + 1) (by omega) (by omega) r (hr.trans ⟨fun h => h.elim (fun h => absurd (by rw [hg]; exact h.symm) q) id, .inr⟩))
theorem Has_ (l : List Int) (x : Int) (hl : l.length ≤ 1048576) : Ev (fun k => spec_l00Has.f k l x) (decide (x ∈ l)) :=
  has_l l x hl l.length 0 rfl (by omega) _ (by rw [List.drop_zero]; exact decide_eq_true_iff)

def bef (n g : Nat) : Nat := (g + n - 1) % n
def nxt (n g : Nat) : Nat := (g + 1) % n
/-- A gore may be pasted next, when those that p tells have been. -/
def fol (s : ByteArray) (n : Nat) (p : Nat → Bool) (g : Nat) : Bool := !p g && ((decide (bt s (bef n g : Int) = 60) || p (bef n g)) && (!decide (bt s (g : Int) = 60) || p (nxt n g)))
/-- All bytes tell seams. -/
def ltrs (s : ByteArray) : Prop := ∀ i : Int, 0 ≤ i → i < s.size → bt s i = 60 ∨ bt s i = 62
theorem tmod_nat (a b : Nat) : Int.tmod (a : Int) (b : Int) = ((a % b : Nat) : Int) := by
  rw [Int.tmod_eq_emod_of_nonneg (by omega)]; rfl
section
variable (s : ByteArray) (h2 : 2 ≤ s.size) (h12 : s.size ≤ 12)
include h2 h12
theorem tm_next (g : Nat) (hg : g < s.size) : Int.tmod (wrap64 ((g : Int) + 1)) (s.size : Int) = ((nxt s.size g : Nat) : Int) := by
  rw [w64 (by omega) (by omega), show (g : Int) + 1 = ((g + 1 : Nat) : Int) by omega, tmod_nat]; rfl
theorem tm_bef (g : Nat) (hg : g < s.size) : Int.tmod (wrap64 ((wrap64 ((g : Int) + (s.size : Int))) - 1)) (s.size : Int) = ((bef s.size g : Nat) : Int) := by
  rw [w64 (n := (g : Int) + (s.size : Int)) (by omega) (by omega), w64 (by omega) (by omega), show (g : Int) + (s.size : Int) - 1 = ((g + s.size - 1 : Nat) : Int) by omega, tmod_nat]; rfl
theorem nxt_lt (g : Nat) : nxt s.size g < s.size := Nat.mod_lt _ (by omega)
theorem bef_lt (g : Nat) : bef s.size g < s.size := Nat.mod_lt _ (by omega)
variable (hl : ltrs s)
include hl
theorem MayFollow_ (D g : Nat) (hg : g < s.size) : impl_mayFollow.f s (D : Int) (g : Int) = some (fol s s.size (fun j => D.testBit j) g) := by
  have hb := bef_lt s h2 h12 g
  have hn := nxt_lt s h2 h12 g
  have hl2 := hl (g : Int) (by omega) (by omega)
  unfold impl_mayFollow.f fol
  rw [if_neg (by omega), if_pos (by omega), tm_next s h2 h12 g hg, tm_bef s h2 h12 g hg, bit_ D g (by omega), bit_ D _ (by omega), bit_ D _ (by omega)]
  by_cases c : D.testBit g = true
  · rw [if_pos (show (if D.testBit g = true then (1 : Int) else 0) = 1 by rw [if_pos c])]; simp [c]
  rw [if_neg (show ¬ (if D.testBit g = true then (1 : Int) else 0) = 1 by rw [if_neg c]; omega), if_pos (by omega), if_pos (by omega), if_pos (by omega)]
  have hc : D.testBit g = false := by simpa using c
  have step : (if (g : Int) < (s.size : Int) then (if bt s (g : Int) = 62 then some true else some ((if D.testBit (nxt s.size g) = true then (1 : Int) else 0) == 1)) else none) = some (!decide (bt s (g : Int) = 60) || D.testBit (nxt s.size g)) := by
    rw [if_pos (by omega)]
    rcases hl2 with e | e
    · rw [e, if_neg (by omega)]; cases D.testBit (nxt s.size g) <;> rfl
    · rw [e, if_pos rfl]; rfl
  by_cases c1 : bt s (bef s.size g : Int) = 60
  · rw [if_pos c1, step]; simp [c1, hc]
  · rw [if_neg c1]
    by_cases c2 : D.testBit (bef s.size g) = true
    · rw [if_pos (show (if D.testBit (bef s.size g) = true then (1 : Int) else 0) = 1 by rw [if_pos c2]), step]; simp [c2, hc]
    · rw [if_neg (show ¬ (if D.testBit (bef s.size g) = true then (1 : Int) else 0) = 1 by rw [if_neg c2]; omega)]; simp [c1, c2]
omit hl in
theorem First_ (done : List Int) (hd : done.length ≤ 1000) (p : Nat → Bool) (hp : ∀ j : Nat, j < s.size → (p j = true ↔ (j : Int) ∈ done)) (g : Nat) (hg : g < s.size) (hpg : p g = false) : Ev (fun k => spec_l18First.f k s done (g : Int)) (fol s s.size p g) := by
  have hb := bef_lt s h2 h12 g
  have hn := nxt_lt s h2 h12 g
  have e1 : Ev (fun k => spec_l00Has.f k done ((nxt s.size g : Nat) : Int)) (p (nxt s.size g)) := by
    have := Has_ done ((nxt s.size g : Nat) : Int) (by omega)
    rw [show decide (((nxt s.size g : Nat) : Int) ∈ done) = p (nxt s.size g) from by rw [Bool.eq_iff_iff, decide_eq_true_iff]; exact (hp _ hn).symm] at this
    exact this
  have e2 : Ev (fun k => spec_l00Has.f k done ((bef s.size g : Nat) : Int)) (p (bef s.size g)) := by
    have := Has_ done ((bef s.size g : Nat) : Int) (by omega)
    rw [show decide (((bef s.size g : Nat) : Int) ∈ done) = p (bef s.size g) from by rw [Bool.eq_iff_iff, decide_eq_true_iff]; exact (hp _ hb).symm] at this
    exact this
  have tail : Ev (fun k => if bt s ((bef s.size g : Nat) : Int) = 60 then some true else (spec_l00Has.f k done ((bef s.size g : Nat) : Int)).bind fun t => some t) (decide (bt s (bef s.size g : Int) = 60) || p (bef s.size g)) := by
    by_cases c : bt s (bef s.size g : Int) = 60
    · exact ⟨0, fun k _ => by show (if bt s ((bef s.size g : Nat) : Int) = 60 then some true else _) = _; rw [if_pos c, decide_eq_true c]; rfl⟩
    · rw [decide_eq_false c, Bool.false_or]
      exact Ev.eq (h := fun k => (spec_l00Has.f k done ((bef s.size g : Nat) : Int)).bind fun t => some t) (fun k => by rw [if_neg c]) (Ev.bind e2 ⟨0, fun k _ => rfl⟩)
  by_cases c : bt s (g : Int) = 60
  · refine Ev.eq (h := fun k => (spec_l00Has.f k done ((nxt s.size g : Nat) : Int)).bind fun t => if t = true then (if bt s ((bef s.size g : Nat) : Int) = 60 then some true else (spec_l00Has.f k done ((bef s.size g : Nat) : Int)).bind fun t => some t) else some false) (fun k => ?_) (Ev.bind e1 ?_)
    · unfold spec_l18First.f
      rw [if_pos (by omega), if_pos (by omega), if_pos c, if_neg (by omega), tm_next s h2 h12 g hg, tm_bef s h2 h12 g hg]
      congr 1; funext t
      rw [if_pos (show (0 : Int) ≤ ((bef s.size g : Nat) : Int) by omega), if_pos (show ((bef s.size g : Nat) : Int) < (s.size : Int) by omega)]
    · unfold fol
      rw [hpg, decide_eq_true c]
      by_cases q : p (nxt s.size g) = true
      · rw [q]
        simp only [Bool.not_false, Bool.true_and, Bool.or_true, Bool.and_true]
        exact Ev.eq (fun k => by simp only [if_true]) tail
      · rw [show p (nxt s.size g) = false by simpa using q]
        exact ⟨0, fun k _ => by simp⟩
  · refine Ev.eq (h := fun k => if bt s ((bef s.size g : Nat) : Int) = 60 then some true else (spec_l00Has.f k done ((bef s.size g : Nat) : Int)).bind fun t => some t) (fun k => ?_) ?_
    · unfold spec_l18First.f
      rw [if_pos (by omega), if_pos (by omega), if_neg c, if_neg (by omega), tm_bef s h2 h12 g hg, if_pos (show (0 : Int) ≤ ((bef s.size g : Nat) : Int) by omega), if_pos (show ((bef s.size g : Nat) : Int) < (s.size : Int) by omega)]
    · unfold fol
      rw [hpg, decide_eq_false c]
      simp only [Bool.not_false, Bool.true_and, Bool.true_or, Bool.and_true]
      exact tail
end

theorem In_ (a b c : Int) : spec_l00In.f a b c = some (decide (b ≤ a ∧ a ≤ c)) := by
  unfold spec_l00In.f
  by_cases h : a ≥ b
  · rw [if_pos h]; simp [show b ≤ a from h]
  · rw [if_neg h]; simp [show ¬ b ≤ a from h]

theorem dw_nil (p : UInt8 → Bool) : ∀ l : List UInt8, l.dropWhile p = [] ↔ l.all p = true
  | [] => by simp
  | a :: l => by
    by_cases h : p a = true
    · rw [List.dropWhile_cons_of_pos h, dw_nil p l]; simp [h]
    · rw [List.dropWhile_cons_of_neg h]; simp [h]
theorem dw_all (p : UInt8 → Bool) : ∀ l : List UInt8, (l.dropWhile p).all p = true → l.all p = true
  | [], _ => rfl
  | a :: l, h => by
    by_cases q : p a = true
    · rw [List.dropWhile_cons_of_pos q] at h
      have := dw_all p l h
      simp only [List.all_cons, q, this, Bool.and_self]
    · rw [List.dropWhile_cons_of_neg q] at h; exact h
/-- Nothing is left of a text that is trimmed just if all its bytes are those of the set. -/
theorem trim_nil (l cs : List UInt8) : Lib.trimS l cs = [] ↔ l.all (cs.contains ·) = true := by
  unfold Lib.trimS Lib.trimLeftS
  rw [dw_nil]
  unfold Lib.trimRightS
  rw [List.all_reverse]
  constructor
  · intro h
    have := dw_all _ _ h
    rwa [List.all_reverse] at this
  · intro h
    rw [← List.all_reverse] at h
    rw [(dw_nil _ _).2 h]; rfl

theorem toList_bytes (s : ByteArray) : s.toList = s.data.toList := Lib.toList_data s
theorem bt_getElem (s : ByteArray) (i : Nat) (h : i < s.size) : bt s (i : Int) = ((s.data.toList[i]'(by simpa using h)).toNat : Int) := by
  rw [← bt_at s (i : Int) (by simpa using h)]
  congr 1
/-- A fact on all bytes of a text, by places and by the list. -/
theorem all_bytes (s : ByteArray) (p : Int → Bool) : (s.data.toList.all fun b => p (b.toNat : Int)) = true ↔ ∀ i : Int, 0 ≤ i → i < s.size → p (bt s i) = true := by
  rw [List.all_eq_true]
  constructor
  · intro h i h0 h1
    obtain ⟨n, rfl⟩ : ∃ n : Nat, i = (n : Int) := ⟨i.toNat, by omega⟩
    rw [bt_getElem s n (by omega)]
    exact h _ (List.getElem_mem _)
  · intro h b hb
    obtain ⟨n, hn, rfl⟩ := List.getElem_of_mem hb
    have hn2 : n < s.size := by simpa using hn
    have := h (n : Int) (by omega) (by omega)
    rwa [bt_getElem s n hn2] at this

def seamB (b : Int) : Bool := decide (b = 60) || decide (b = 62)
def wanB (s : ByteArray) : Bool := decide (2 ≤ s.size ∧ s.size ≤ 12) && s.data.toList.all fun b => seamB (b.toNat : Int)
theorem wanB_says {s : ByteArray} (h : wanB s = true) : 2 ≤ s.size ∧ s.size ≤ 12 ∧ ∀ i : Int, 0 ≤ i → i < s.size → bt s i = 60 ∨ bt s i = 62 := by
  unfold wanB at h
  rw [Bool.and_eq_true] at h
  have h1 := of_decide_eq_true h.1
  refine ⟨h1.1, h1.2, fun i i0 i1 => ?_⟩
  have := (all_bytes s seamB).1 h.2 i i0 i1
  unfold seamB at this
  simpa using this
def seamSet : ByteArray := ⟨#[60, 62]⟩
theorem seamSet_ (b : UInt8) : seamSet.data.toList.contains b = seamB (b.toNat : Int) := by
  have e : ∀ n : Fin 256, seamSet.data.toList.contains n.1.toUInt8 = seamB (n.1 : Int) := by decide +kernel
  have := e ⟨b.toNat, b.toNat_lt⟩
  simpa using this
theorem AreSeams_ (s : ByteArray) : impl_areSeams.f s = some (wanB s) := by
  unfold impl_areSeams.f
  by_cases h1 : (s.size : Int) ≥ 2
  · rw [if_pos h1]
    by_cases h2 : (s.size : Int) ≤ 12
    · rw [if_pos h2]
      show ((strings_Trim.f s seamSet).bind fun t => some (t.toList == ([] : List UInt8))) = some (wanB s)
      have ht : strings_Trim.f s seamSet = some ⟨(Lib.trimS s.data.toList seamSet.data.toList).toArray⟩ := by
        unfold strings_Trim.f
        rw [if_pos ⟨by omega, by decide, by decide⟩]
      rw [ht]; simp only [Option.bind_some]
      rw [toList_bytes]
      congr 1
      show ((Lib.trimS s.data.toList seamSet.data.toList) == []) = _
      have h := trim_nil s.data.toList seamSet.data.toList
      have e : (s.data.toList.all fun b => seamSet.data.toList.contains b) = (s.data.toList.all fun b => seamB (b.toNat : Int)) := by
        congr 1; funext b; exact seamSet_ b
      rw [e] at h
      unfold wanB
      rw [decide_eq_true (show 2 ≤ s.size ∧ s.size ≤ 12 by omega), Bool.true_and]
      cases q : (s.data.toList.all fun b => seamB (b.toNat : Int)) with
      | true => rw [h.2 q]; rfl
      | false =>
        cases z : Lib.trimS s.data.toList seamSet.data.toList with
        | nil => have := h.1 z; rw [this] at q; cases q
        | cons a l => rfl
    · rw [if_neg h2]; congr 1; unfold wanB; simp; omega
  · rw [if_neg h1]; congr 1; unfold wanB; simp; omega
theorem specWanted_l (s : ByteArray) (hs : s.size ≤ 1048576) : ∀ (d : Nat) (i : Int), (s.size : Int) - i = d → 0 ≤ i → ∀ r : Bool, (r = true ↔ (2 ≤ s.size ∧ s.size ≤ 12) ∧ ∀ j : Int, i ≤ j → j < s.size → seamB (bt s j) = true) → Ev (fun k => spec_l18Wanted.l0 k s i) r := by
  intro d
  induction d with
  | zero =>
    intro i hd h0 r hr
    have e : r = decide (2 ≤ (s.size : Int) ∧ (s.size : Int) ≤ 12) := by
      rw [Bool.eq_iff_iff, hr, decide_eq_true_iff]
      exact ⟨fun h => by omega, fun h => ⟨by omega, fun j _ _ => by omega⟩⟩
    rw [e]
    refine Ev.now (fun k => ?_)
    simp only [spec_l18Wanted.l0]
    rw [if_neg (by omega), In_]; rfl
  | succ d ih =>
    intro i hd h0 r hr
    have e : ∀ k, spec_l18Wanted.l0 (k + 1) s i = if seamB (bt s i) = true then spec_l18Wanted.l0 k s (i + 1) else some false := by
      intro k
      simp only [spec_l18Wanted.l0]
      rw [if_pos (by omega), if_pos h0, w64 (n := i + 1) (by omega) (by omega)]
      unfold seamB
      by_cases c1 : bt s i = 60
      · simp [c1]
      · by_cases c2 : bt s i = 62
        · simp [c2]
        · simp [c1, c2]
    by_cases c : seamB (bt s i) = true
    · refine Ev.step (fun k => by rw [e, if_pos c]) (ih (i + 1) (by omega) (by omega) r ?_)
      rw [hr]
      constructor
      · exact fun h => ⟨h.1, fun j j0 j1 => h.2 j (by omega) j1⟩
      · intro h
        refine ⟨h.1, fun j j0 j1 => ?_⟩
        by_cases z : j = i
        · subst z; exact c
        · exact h.2 j (by omega) j1
    · have : r = false := by
        cases r with
        | false => rfl
        | true => exact absurd ((hr.1 rfl).2 i (Int.le_refl _) (by omega)) c
      subst this
      exact Ev.now (fun k => by rw [e, if_neg c])
theorem SpecWanted_ (s : ByteArray) (hs : s.size ≤ 1048576) : Ev (fun k => spec_l18Wanted.f k s) (wanB s) :=
  specWanted_l s hs s.size 0 (by omega) (by omega) _ (by
    unfold wanB
    rw [Bool.and_eq_true, decide_eq_true_iff]
    exact and_congr_right (fun _ => all_bytes s seamB))

/-- From some number of rounds on there is an answer, one that is as told. -/
def EvP {α : Type} (g : Nat → Option α) (Q : α → Prop) : Prop := ∃ r, Q r ∧ Ev g r
theorem EvP.step {α : Type} {g h : Nat → Option α} {Q : α → Prop} (e : ∀ k, g (k + 1) = h k) (hr : EvP h Q) : EvP g Q := by
  obtain ⟨r, hq, hr⟩ := hr
  exact ⟨r, hq, Ev.step e hr⟩
theorem EvP.eq {α : Type} {g h : Nat → Option α} {Q : α → Prop} (e : ∀ k, g k = h k) (hr : EvP h Q) : EvP g Q := by
  obtain ⟨r, hq, hr⟩ := hr
  exact ⟨r, hq, Ev.eq e hr⟩
theorem EvP.bind {α β : Type} {c : Nat → Option α} {f : Nat → α → Option β} {P : α → Prop} {Q : β → Prop} (hc : EvP c P) (hf : ∀ t, P t → EvP (fun k => f k t) Q) : EvP (fun k => (c k).bind (f k)) Q := by
  obtain ⟨t, hp, hc⟩ := hc
  obtain ⟨r, hq, hr⟩ := hf t hp
  exact ⟨r, hq, Ev.bind hc hr⟩

def castL (l : List Nat) : List Int := l.map fun (j : Nat) => (j : Int)
theorem castL_len (l : List Nat) : (castL l).length = l.length := by simp [castL]
theorem castL_mem (l : List Nat) (j : Nat) : (j : Int) ∈ castL l ↔ j ∈ l := by
  unfold castL
  rw [List.mem_map]
  constructor
  · rintro ⟨x, hx, e⟩
    have : x = j := by omega
    rwa [this] at hx
  · exact fun h => ⟨j, h, rfl⟩
theorem castL_app (l : List Nat) (g : Nat) : castL (l ++ [g]) = castL l ++ [(g : Int)] := by simp [castL]

/-- The first gore from g on that may be pasted next. -/
def fst1 (s : ByteArray) (p : Nat → Bool) : Nat → Nat → Option Nat
  | 0, _ => none
  | d + 1, g => if fol s s.size p g = true then some g else fst1 s p d (g + 1)
theorem fst1_some (s : ByteArray) (p : Nat → Bool) : ∀ (d g j : Nat), fst1 s p d g = some j → g ≤ j ∧ j < g + d ∧ fol s s.size p j = true
  | 0, _, _, h => by cases h
  | d + 1, g, j, h => by
    unfold fst1 at h
    split at h
    · rename_i c; obtain rfl := Option.some.inj h; exact ⟨Nat.le_refl _, by omega, c⟩
    · have := fst1_some s p d (g + 1) j h; exact ⟨by omega, by omega, this.2.2⟩
theorem fst1_none (s : ByteArray) (p : Nat → Bool) : ∀ (d g : Nat), fst1 s p d g = none → ∀ j, g ≤ j → j < g + d → fol s s.size p j = false
  | 0, _, _, j, h1, h2 => by omega
  | d + 1, g, h, j, h1, h2 => by
    unfold fst1 at h
    split at h
    · cases h
    · rename_i c
      by_cases e : j = g
      · subst e; simpa using c
      · exact fst1_none s p d (g + 1) h j (by omega) (by omega)
def inL (out : List Nat) (j : Nat) : Bool := decide (j ∈ out)
/-- The order: the first gore that may follow, again and again. -/
def grd (s : ByteArray) : Nat → List Nat → List Nat
  | 0, out => out
  | d + 1, out => match fst1 s (inL out) s.size 0 with
    | none => out
    | some g => grd s d (out ++ [g])
theorem grd_len (s : ByteArray) : ∀ (d : Nat) (out : List Nat), out.length ≤ (grd s d out).length ∧ (grd s d out).length ≤ out.length + d
  | 0, out => ⟨Nat.le_refl _, Nat.le_refl _⟩
  | d + 1, out => by
    unfold grd
    split
    · exact ⟨Nat.le_refl _, by omega⟩
    · rename_i g _
      have := grd_len s d (out ++ [g])
      simp only [List.length_append, List.length_cons, List.length_nil] at this
      omega
section
variable (s : ByteArray) (h2 : 2 ≤ s.size) (h12 : s.size ≤ 12) (hl : ltrs s)
include h2 h12 hl
omit hl in
theorem specOrder_1 (out : List Nat) (ho : out.length ≤ 12) (r : List Int) : ∀ (d g : Nat), s.size - g = d → g ≤ s.size → Ev (fun k => match fst1 s (inL out) d g with | none => some (castL out) | some j => spec_l18Order.l0 k s (castL out ++ [(j : Int)])) r → Ev (fun k => spec_l18Order.l1 k s (castL out) (-1) (g : Int)) r := by
  intro d
  induction d with
  | zero =>
    intro g hd hg hr
    refine Ev.step (h := fun k => spec_l18Order.j2 k s (castL out) (-1) (g : Int) false) (fun k => ?_) (Ev.step (h := fun _ => some (castL out)) (fun k => ?_) hr)
    · simp only [spec_l18Order.l1]; rw [if_neg (by omega)]
    · simp only [spec_l18Order.j2, Bool.false_eq_true, if_false]; rw [if_pos (by omega)]
  | succ d ih =>
    intro g hd hg hr
    have hcl := castL_len out
    have found : fol s s.size (inL out) g = true → Ev (fun k => spec_l18Order.l1 k s (castL out) (g : Int) (wrap64 ((g : Int) + 1))) r := by
      intro c
      have hr2 : Ev (fun k => spec_l18Order.l0 k s (castL out ++ [(g : Int)])) r := by
        simp only [fst1, if_pos c] at hr; exact hr
      refine Ev.step (h := fun k => spec_l18Order.j2 k s (castL out) (g : Int) (wrap64 ((g : Int) + 1)) false) (fun k => ?_) (Ev.step (fun k => ?_) hr2)
      · simp only [spec_l18Order.l1]
        by_cases z : wrap64 ((g : Int) + 1) < (s.size : Int)
        · rw [if_pos z, decide_eq_false (show ¬ (g : Int) < 0 by omega)]
        · rw [if_neg z]
      · simp only [spec_l18Order.j2, Bool.false_eq_true, if_false]
        rw [if_neg (show ¬ (g : Int) < 0 by omega), if_pos (by omega)]
    have notf : fol s s.size (inL out) g = false → Ev (fun k => spec_l18Order.l1 k s (castL out) (-1) (wrap64 ((g : Int) + 1))) r := by
      intro c
      rw [w64 (by omega) (by omega), show (g : Int) + 1 = ((g + 1 : Nat) : Int) by omega]
      refine ih (g + 1) (by omega) (by omega) ?_
      simp only [fst1, c, Bool.false_eq_true, if_false] at hr; exact hr
    refine Ev.step (h := fun k => spec_l18Order.j2 k s (castL out) (-1) (g : Int) true) (fun k => ?_) ?_
    · simp only [spec_l18Order.l1]; rw [if_pos (by omega)]; rfl
    refine Ev.step (h := fun k => (spec_l00Has.f k (castL out) (g : Int)).bind fun t => if t = true then spec_l18Order.l1 k s (castL out) (-1) (wrap64 ((g : Int) + 1)) else (spec_l18First.f k s (castL out) (g : Int)).bind fun u => if u = true then spec_l18Order.l1 k s (castL out) (g : Int) (wrap64 ((g : Int) + 1)) else spec_l18Order.l1 k s (castL out) (-1) (wrap64 ((g : Int) + 1))) (fun k => by simp only [spec_l18Order.j2, if_true]) (Ev.bind (Has_ _ _ (by omega)) ?_)
    by_cases m : g ∈ out
    · have hm : decide ((g : Int) ∈ castL out) = true := decide_eq_true ((castL_mem out g).2 m)
      rw [hm]
      exact Ev.eq (fun k => by rw [if_pos rfl]) (notf (by unfold fol inL; simp [m]))
    · have hm : decide ((g : Int) ∈ castL out) = false := decide_eq_false (fun h => m ((castL_mem out g).1 h))
      rw [hm]
      have hF := First_ s h2 h12 (castL out) (by omega) (inL out) (fun j _ => by unfold inL; rw [decide_eq_true_iff, castL_mem]) g (by omega) (by unfold inL; simp [m])
      refine Ev.eq (h := fun k => (spec_l18First.f k s (castL out) (g : Int)).bind fun u => if u = true then spec_l18Order.l1 k s (castL out) (g : Int) (wrap64 ((g : Int) + 1)) else spec_l18Order.l1 k s (castL out) (-1) (wrap64 ((g : Int) + 1))) (fun k => by rw [if_neg (by simp)]) (Ev.bind hF ?_)
      cases c : fol s s.size (inL out) g with
      | true => exact Ev.eq (fun k => by rw [if_pos rfl]) (found c)
      | false => exact Ev.eq (fun k => by rw [if_neg (by simp)]) (notf c)
omit hl in
theorem specOrder_0 : ∀ (d : Nat) (out : List Nat), s.size - out.length = d → out.length ≤ s.size → Ev (fun k => spec_l18Order.l0 k s (castL out)) (castL (grd s d out)) := by
  intro d
  induction d with
  | zero =>
    intro out hd ho
    have hcl := castL_len out
    refine Ev.now (fun k => ?_)
    simp only [spec_l18Order.l0]; rw [if_neg (by omega)]; rfl
  | succ d ih =>
    intro out hd ho
    have hcl := castL_len out
    refine Ev.step (h := fun k => spec_l18Order.l1 k s (castL out) (-1) ((0 : Nat) : Int)) (fun k => ?_) (specOrder_1 s h2 h12 out (by omega) _ s.size 0 rfl (by omega) ?_)
    · simp only [spec_l18Order.l0]; rw [if_pos (by omega)]; rfl
    · unfold grd
      cases z : fst1 s (inL out) s.size 0 with
      | none => exact ⟨0, fun k _ => rfl⟩
      | some g =>
        have := ih (out ++ [g]) (by simp; omega) (by simp; omega)
        rw [castL_app] at this
        exact this
end
def bitsOf (out : List Nat) : Nat := out.foldl (fun D g => D ||| 2 ^ g) 0
theorem bitsOf_app (out : List Nat) (g : Nat) : bitsOf (out ++ [g]) = bitsOf out ||| 2 ^ g := by unfold bitsOf; rw [List.foldl_append]; rfl
theorem fold_test : ∀ (out : List Nat) (D j : Nat), (out.foldl (fun D g => D ||| 2 ^ g) D).testBit j = (D.testBit j || decide (j ∈ out))
  | [], D, j => by simp
  | g :: out, D, j => by
    rw [List.foldl_cons, fold_test out, Nat.testBit_or, Nat.testBit_two_pow]
    by_cases e : g = j
    · subst e; simp
    · simp [e, Ne.symm e]
theorem bitsOf_test (out : List Nat) (j : Nat) : (bitsOf out).testBit j = inL out j := by
  unfold bitsOf; rw [fold_test]; simp [inL]
theorem fold_lt (n : Nat) : ∀ (out : List Nat) (D : Nat), D < 2 ^ n → (∀ g ∈ out, g < n) → out.foldl (fun D g => D ||| 2 ^ g) D < 2 ^ n
  | [], D, h, _ => h
  | g :: out, D, h, hg => by
    rw [List.foldl_cons]
    exact fold_lt n out _ (Nat.or_lt_two_pow h (Nat.pow_lt_pow_right (by omega) (hg g List.mem_cons_self))) (fun x hx => hg x (List.mem_cons_of_mem _ hx))
theorem bitsOf_lt (n : Nat) (out : List Nat) (h : ∀ g ∈ out, g < n) : bitsOf out < 2 ^ n := fold_lt n out 0 (Nat.two_pow_pos n) h
def ordR (s : ByteArray) : List Int × Int := if wanB s = true then (if (grd s s.size []).length < s.size then ([], 3) else (castL (grd s s.size []), 0)) else ([], 7)
theorem ordR_len (s : ByteArray) : (ordR s).1.length ≤ 12 := by
  unfold ordR
  by_cases w : wanB s = true
  · rw [if_pos w]
    have := (wanB_says w).2.1
    split
    · simp
    · show (castL _).length ≤ 12
      rw [castL_len]
      have := (grd_len s s.size []).2
      simp at this; omega
  · rw [if_neg w]; simp
theorem SpecOrderFor_ (s : ByteArray) (hs : s.size ≤ 1048576) : Ev (fun k => spec_OrderFor.f k s) (ordR s) := by
  refine Ev.eq (h := fun k => (spec_l18Wanted.f k s).bind fun t => if t = true then ((spec_l18Order.f k s).bind fun u => if (u.length : Int) < (s.size : Int) then some ([], 3) else some (u, 0)) else some ([], 7)) (fun k => rfl) (Ev.bind (SpecWanted_ s hs) ?_)
  unfold ordR
  by_cases w : wanB s = true
  · obtain ⟨w1, w2, w3⟩ := wanB_says w
    rw [if_pos w]
    refine Ev.eq (h := fun k => (spec_l18Order.f k s).bind fun u => if (u.length : Int) < (s.size : Int) then some ([], 3) else some (u, 0)) (fun k => by rw [if_pos w]) (Ev.bind (t := castL (grd s s.size [])) (specOrder_0 s w1 w2 s.size [] (by simp) (by simp)) ⟨0, fun k _ => ?_⟩)
    show (if ((castL (grd s s.size [])).length : Int) < (s.size : Int) then some (([] : List Int), (3 : Int)) else some (castL (grd s s.size []), 0)) = _
    rw [castL_len]
    by_cases c : (grd s s.size []).length < s.size
    · rw [if_pos c, if_pos (by omega)]
    · rw [if_neg c, if_neg (by omega)]
  · rw [if_neg w]
    exact ⟨0, fun k _ => if_neg w⟩
section
variable (s : ByteArray) (h2 : 2 ≤ s.size) (h12 : s.size ≤ 12) (hl : ltrs s)
include h2 h12 hl
theorem implOrder_1 (out : List Nat) (ho : out.length ≤ 12) (hin : ∀ g ∈ out, g < s.size) (r : List Int × Int) : ∀ (d g : Nat), s.size - g = d → g ≤ s.size → Ev (fun k => match fst1 s (inL out) d g with | none => some ([], 3) | some j => impl_OrderFor.l0 k s (castL out ++ [(j : Int)]) ((bitsOf (out ++ [j]) : Nat) : Int)) r → Ev (fun k => impl_OrderFor.l1 k s (castL out) ((bitsOf out : Nat) : Int) (g : Int)) r := by
  have hcl := castL_len out
  intro d
  induction d with
  | zero =>
    intro g hd hg hr
    refine Ev.step (h := fun _ => some ([], 3)) (fun k => ?_) hr
    simp only [impl_OrderFor.l1]
    rw [if_neg (by omega), if_pos (by omega)]
  | succ d ih =>
    intro g hd hg hr
    have hM := MayFollow_ s h2 h12 hl (bitsOf out) g (by omega)
    have hf : (fun j => (bitsOf out).testBit j) = inL out := by funext j; exact bitsOf_test out j
    rw [hf] at hM
    by_cases c : fol s s.size (inL out) g = true
    · have hr2 : Ev (fun k => impl_OrderFor.l0 k s (castL out ++ [(g : Int)]) ((bitsOf (out ++ [g]) : Nat) : Int)) r := by
        simp only [fst1, if_pos c] at hr; exact hr
      refine Ev.step (fun k => ?_) hr2
      have hb := bitsOf_lt s.size out hin
      have hp : 2 ^ s.size ≤ 2 ^ 12 := Nat.pow_le_pow_right (by omega) h12
      have hp2 : 2 ^ g ≤ 2 ^ 12 := Nat.pow_le_pow_right (by omega) (by omega)
      simp only [impl_OrderFor.l1]
      rw [if_pos (by omega), hM, c]; simp only [Option.bind_some, if_true]
      rw [if_neg (by omega), if_pos (by omega), if_pos (by omega), shl1_ g (by omega), or_nat _ _ (by omega) (by omega), bitsOf_app]
    · have hr2 := hr
      simp only [fst1, if_neg c] at hr2
      refine Ev.step (fun k => ?_) (ih (g + 1) (by omega) (by omega) hr2)
      simp only [impl_OrderFor.l1]
      rw [if_pos (by omega), hM, show fol s s.size (inL out) g = false by simpa using c]; simp only [Option.bind_some, Bool.false_eq_true, if_false]
      rw [w64 (n := (g : Int) + 1) (by omega) (by omega)]; rfl
theorem implOrder_0 : ∀ (d : Nat) (out : List Nat), s.size - out.length = d → out.length ≤ s.size → (∀ g ∈ out, g < s.size) → Ev (fun k => impl_OrderFor.l0 k s (castL out) ((bitsOf out : Nat) : Int)) (if (grd s d out).length < s.size then ([], 3) else (castL (grd s d out), 0)) := by
  intro d
  induction d with
  | zero =>
    intro out hd ho hin
    have hcl := castL_len out
    rw [show grd s 0 out = out from rfl, if_neg (by omega)]
    refine Ev.now (fun k => ?_)
    simp only [impl_OrderFor.l0]; rw [if_neg (by omega)]
  | succ d ih =>
    intro out hd ho hin
    have hcl := castL_len out
    refine Ev.step (h := fun k => impl_OrderFor.l1 k s (castL out) ((bitsOf out : Nat) : Int) ((0 : Nat) : Int)) (fun k => ?_) (implOrder_1 s h2 h12 hl out (by omega) hin _ s.size 0 rfl (by omega) ?_)
    · simp only [impl_OrderFor.l0]; rw [if_pos (by omega)]; rfl
    · cases z : fst1 s (inL out) s.size 0 with
      | none =>
        have hg : grd s (d + 1) out = out := by simp only [grd, z]
        rw [hg, if_pos (by omega)]
        exact ⟨0, fun k _ => rfl⟩
      | some g =>
        have hg : grd s (d + 1) out = grd s d (out ++ [g]) := by simp only [grd, z]
        rw [hg]
        have hz := fst1_some s _ _ _ _ z
        have := ih (out ++ [g]) (by simp; omega) (by simp; omega) (fun x hx => by
          rcases List.mem_append.1 hx with hx | hx
          · exact hin x hx
          · rw [List.mem_singleton.1 hx]; omega)
        rw [castL_app] at this
        exact this
end
theorem ImplOrderFor_ (s : ByteArray) : Ev (fun k => impl_OrderFor.f k s) (ordR s) := by
  refine Ev.eq (h := fun k => if wanB s = true then impl_OrderFor.l0 k s [] 0 else some ([], 7)) (fun k => by unfold impl_OrderFor.f; rw [AreSeams_]; rfl) ?_
  unfold ordR
  by_cases w : wanB s = true
  · obtain ⟨w1, w2, w3⟩ := wanB_says w
    rw [if_pos w]
    exact Ev.eq (fun k => by rw [if_pos w]; rfl) (implOrder_0 s w1 w2 w3 s.size [] (by simp) (by simp) (fun g hg => by cases hg))
  · rw [if_neg w]
    exact ⟨0, fun k _ => if_neg w⟩

theorem eqInts_l (l : List Int) (hl : l.length ≤ 1152921504606846976) : ∀ (d k : Nat) (i : Int), (l.length : Int) - i = d → 0 ≤ i → d < k → laws_eqInt64S.l0 k l l i = some true := by
  intro d
  induction d with
  | zero =>
    intro k i hd h0 hk
    obtain ⟨k, rfl⟩ : ∃ m, k = m + 1 := ⟨k - 1, by omega⟩
    simp only [laws_eqInt64S.l0]; rw [if_neg (by omega)]
  | succ d ih =>
    intro k i hd h0 hk
    obtain ⟨k, rfl⟩ : ∃ m, k = m + 1 := ⟨k - 1, by omega⟩
    simp only [laws_eqInt64S.l0]
    rw [if_pos (by omega), if_pos h0, if_pos (by omega), if_pos trivial, w64 (by omega) (by omega)]
    exact ih k (i + 1) (by omega) (by omega) (by omega)
theorem eqInts_ (l : List Int) (hl : l.length ≤ 1152921504606846976) (k : Nat) (hk : l.length < k) : laws_eqInt64S.f k l l = some true := by
  unfold laws_eqInt64S.f
  rw [if_pos rfl]; exact eqInts_l l hl l.length k 0 (by omega) (by omega) hk

theorem eqI_ (l : List Int) (hl : l.length ≤ 1048576) (k : Nat) (hk : 1048577 ≤ k) : laws_eqInt64S.f k l l = some true := eqInts_ l (by omega) k (by omega)

theorem rd_set_same (l : List Int) (i : Int) (v : Int) (h0 : 0 ≤ i) (h : i < l.length) : rd (l.set i.toNat v) i = v := by
  unfold rd; simp [List.getD_eq_getElem?_getD, List.getElem?_set, show i.toNat < l.length by omega]
theorem rd_set_other (l : List Int) (i j : Int) (v : Int) (h0 : 0 ≤ i) (h1 : 0 ≤ j) (h : i ≠ j) : rd (l.set i.toNat v) j = rd l j := by
  unfold rd; simp [List.getD_eq_getElem?_getD, List.getElem?_set, show ¬ i.toNat = j.toNat by omega]
theorem mark_l : ∀ (d k : Nat) (l : List Int) (i m : Int), (l.length : Int) - i = d → 0 ≤ i → l.length ≤ 1152921504606846976 → 0 ≤ m → m + d ≤ 4611686018427387904 → d < k → ∃ l', laws_markInt64S.l0 k l m i = some (m + d, l') ∧ l'.length = l.length ∧ (∀ j, i ≤ j → j < l.length → rd l' j = m + (j - i)) ∧ ∀ j, 0 ≤ j → j < i → rd l' j = rd l j := by
  intro d
  induction d with
  | zero =>
    intro k l i m hd h0 hl hm hm2 hk
    obtain ⟨k, rfl⟩ : ∃ m, k = m + 1 := ⟨k - 1, by omega⟩
    refine ⟨l, ?_, rfl, fun j h1 h2 => by omega, fun j _ _ => rfl⟩
    simp only [laws_markInt64S.l0]; rw [if_neg (by omega)]; simp
  | succ d ih =>
    intro k l i m hd h0 hl hm hm2 hk
    obtain ⟨k, rfl⟩ : ∃ m, k = m + 1 := ⟨k - 1, by omega⟩
    obtain ⟨l', h1, h2, h3, h4⟩ := ih k (l.set i.toNat m) (i + 1) (m + 1) (by simp; omega) (by omega) (by simpa using hl) (by omega) (by omega) (by omega)
    refine ⟨l', ?_, by simpa using h2, fun j g1 g2 => ?_, fun j g1 g2 => ?_⟩
    · simp only [laws_markInt64S.l0]
      rw [if_pos (by omega), if_pos h0, w64 (n := m + 1) (by omega) (by omega), w64 (n := i + 1) (by omega) (by omega), h1]
      congr 2; omega
    · by_cases e : j = i
      · subst e; rw [h4 j h0 (by omega), rd_set_same _ _ _ h0 (by omega)]; omega
      · rw [h3 j (by omega) (by simpa using g2)]; omega
    · rw [h4 j g1 (by omega), rd_set_other _ _ _ _ h0 g1 (by omega)]

theorem held_l (l : List Int) (hl : l.length ≤ 1152921504606846976) : ∀ (d k : Nat) (i m : Int), (l.length : Int) - i = d → 0 ≤ i → 0 ≤ m → m + d ≤ 4611686018427387904 → d < k → (∀ j, i ≤ j → j < l.length → rd l j = m + (j - i)) → laws_heldInt64S.l0 k l m i = some (m + d) := by
  intro d
  induction d with
  | zero =>
    intro k i m hd h0 hm hm2 hk hr
    obtain ⟨k, rfl⟩ : ∃ m, k = m + 1 := ⟨k - 1, by omega⟩
    simp only [laws_heldInt64S.l0]; rw [if_neg (by omega)]; simp
  | succ d ih =>
    intro k i m hd h0 hm hm2 hk hr
    obtain ⟨k, rfl⟩ : ∃ m, k = m + 1 := ⟨k - 1, by omega⟩
    simp only [laws_heldInt64S.l0]
    rw [if_pos (by omega), if_pos h0, if_pos (by rw [hr i (by omega) (by omega)]; omega), w64 (n := m + 1) (by omega) (by omega), w64 (n := i + 1) (by omega) (by omega), ih k (i + 1) (m + 1) (by omega) (by omega) (by omega) (by omega) (by omega) (fun j g1 g2 => by rw [hr j (by omega) g2]; omega)]
    congr 1; omega
theorem mark_held (l : List Int) (hl : l.length ≤ 1152921504606846976) (k : Nat) (hk : l.length < k) (k' : Nat) (hk' : l.length < k') (k'' : Nat) (hk'' : l.length < k'') : ∃ l', laws_markInt64S.f k l 1 = some (1 + (l.length : Int), l') ∧ laws_heldInt64S.f k' l' 1 = some (1 + (l.length : Int)) ∧ laws_heldInt64S.f k'' l' 1 = some (1 + (l.length : Int)) := by
  obtain ⟨l', h1, h2, h3, h4⟩ := mark_l l.length k l 0 1 (by omega) (by omega) hl (by omega) (by omega) hk
  have hh : ∀ k, l.length < k → laws_heldInt64S.l0 k l' 1 0 = some (1 + (l.length : Int)) := fun k hk => held_l l' (by omega) l.length k 0 1 (by omega) (by omega) (by omega) (by omega) hk (fun j g1 g2 => h3 j g1 (by omega))
  refine ⟨l', ?_, ?_, ?_⟩
  · unfold laws_markInt64S.f; exact h1
  · unfold laws_heldInt64S.f; exact hh k' hk'
  · unfold laws_heldInt64S.f; exact hh k'' hk''

theorem mkI_ (l : List Int) (hl : l.length ≤ 1048576) (m : Int) (h0 : 0 ≤ m) (h1 : m ≤ 1000000000) : ∃ l', ∀ k, 1048577 ≤ k → laws_markInt64S.f k l m = some (m + (l.length : Int), l') := by
  obtain ⟨l', h, _⟩ := mark_l l.length 1048577 l 0 m (by omega) (by omega) (by omega) (by omega) (by omega) (by omega)
  refine ⟨l', fun k hk => ?_⟩
  exact at_rounds (g := fun k => laws_markInt64S.f k l m) (fun k => laws_markInt64S.mono _ _ _) hk (by unfold laws_markInt64S.f; exact h)

theorem mkH_ (l : List Int) (hl : l.length ≤ 1048576) : ∃ l', (∀ k, 1048577 ≤ k → laws_markInt64S.f k l 1 = some (1 + (l.length : Int), l')) ∧ ∀ k, 1048577 ≤ k → laws_heldInt64S.f k l' 1 = some (1 + (l.length : Int)) := by
  obtain ⟨l', h1, h2, h3⟩ := mark_held l (by omega) 1048577 (by omega) 1048577 (by omega) 1048577 (by omega)
  refine ⟨l', fun k hk => ?_, fun k hk => ?_⟩
  · exact at_rounds (g := fun k => laws_markInt64S.f k l 1) (fun k => laws_markInt64S.mono _ _ _) hk h1
  · exact at_rounds (g := fun k => laws_heldInt64S.f k l' 1) (fun k => laws_heldInt64S.mono _ _ _) hk h2

theorem FnExactOrderFor : laws_FnExactOrderFor.Pure := by
  intro s _
  by_cases hb : (s.size : Int) > 1048576
  · exact ⟨0, by unfold laws_FnExactOrderFor.f; rw [if_pos hb]⟩
  have hs : s.size ≤ 1048576 := by omega
  obtain ⟨K1, e1⟩ := SpecOrderFor_ s hs
  obtain ⟨K2, e2⟩ := ImplOrderFor_ s
  dsimp only at e1 e2
  have hrl := ordR_len s
  generalize ordR s = r at e1 e2 hrl
  obtain ⟨R, c⟩ := r
  have hrl : R.length ≤ 1048576 := Nat.le_trans hrl (by omega)
  have hER := eqI_ R hrl
  obtain ⟨R', hMR, hH⟩ := mkH_ R hrl
  have n2 : ¬ (1 + (R.length : Int) < 0) := by omega
  refine ⟨1048800 + (K1 + K2), ?_⟩
  generalize hk : 1048800 + (K1 + K2) = k
  unfold laws_FnExactOrderFor.f
  rw [if_neg hb, e1 _ (by omega)]; simp only [Option.bind_some]
  rw [e2 _ (by omega)]; simp only [Option.bind_some]
  rw [hER _ (by omega)]; simp only [Option.bind_some, if_true, bne_self_eq_false]
  obtain ⟨k, rfl⟩ : ∃ m, k = m + 1 := ⟨k - 1, by omega⟩
  simp only [laws_FnExactOrderFor.j0, Bool.false_eq_true, if_false]
  rw [hMR _ (by omega)]; simp only [Option.bind_some]
  rw [hH _ (by omega)]; simp only [Option.bind_some]
  rw [if_neg n2]; simp only [if_true]
  rw [e2 _ (by omega)]; simp only [Option.bind_some]
  rw [hER _ (by omega)]; simp only [Option.bind_some, if_true, bne_self_eq_false]
  obtain ⟨k, rfl⟩ : ∃ m, k = m + 1 := ⟨k - 1, by omega⟩
  simp only [laws_FnExactOrderFor.j1, Bool.false_eq_true, if_false]
  rw [hH _ (by omega)]; simp only [Option.bind_some]
  rw [if_neg n2]; simp

end Go.Proofs.YtfpddpkloplpeaaDoor.Pure
