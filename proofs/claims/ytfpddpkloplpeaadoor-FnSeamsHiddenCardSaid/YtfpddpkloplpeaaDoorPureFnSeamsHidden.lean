/- At all drawn seams and orders: an order that is told has the wanted seams, there is one just if some are counted, and each order's own seams have one. No condition. -/
import Derived.Test.YtfpddpkloplpeaaDoorQFnSeamsHiddenx8
import Derived.Test.YtfpddpkloplpeaaDoorBase
namespace Go.Proofs.YtfpddpkloplpeaaDoor.Pure
open Go Go.RowKit Go.Proofs.YtfpddpkloplpeaaDoor.QFnSeamsHidden Go.Proofs.YtfpddpkloplpeaaDoorW.PrintWords Go.Proofs.YtfpddpkloplpeaaDoorW.PrintLast Go.Proofs.YtfpddpkloplpeaaDoorW.PrintMore Go.Proofs.YtfpddpkloplpeaaDoor.Base
set_option linter.unusedVariables false
set_option linter.unusedSimpArgs false

theorem or_nat (a b : Nat) (ha : a < 2 ^ 62) (hb : b < 2 ^ 62) : Go.bits .or .i64 (a : Int) (b : Int) = ((a ||| b : Nat) : Int) := by
  have h : a ||| b < 2 ^ 62 := Nat.or_lt_two_pow ha hb
  have key : (BitVec.ofInt 64 (a : Int) ||| BitVec.ofInt 64 (b : Int)).toNat = a ||| b := by
    rw [BitVec.toNat_or, BitVec.toNat_ofInt, BitVec.toNat_ofInt]
    have e1 : ((a : Int) % ((2 ^ 64 : Nat) : Int)).toNat = a := by omega
    have e2 : ((b : Int) % ((2 ^ 64 : Nat) : Int)).toNat = b := by omega
    rw [e1, e2]
  show IntKind.i64.wrap ((BitVec.ofInt 64 (a : Int) ||| BitVec.ofInt 64 (b : Int)).toNat : Nat) = _
  rw [key, IntKind.wrap_i64]
  omega
theorem and1_ (n : Int) : Go.bits .and .i64 n 1 = n % 2 := by
  have h1 : (BitVec.ofInt 64 1).toNat = 2 ^ 1 - 1 := by decide
  have key : (BitVec.ofInt 64 n &&& BitVec.ofInt 64 1).toNat = (n % ((2 ^ 64 : Nat) : Int)).toNat % 2 ^ 1 := by
    rw [BitVec.toNat_and, BitVec.toNat_ofInt, h1, Nat.and_two_pow_sub_one_eq_mod]
  show IntKind.i64.wrap ((BitVec.ofInt 64 n &&& BitVec.ofInt 64 1).toNat : Nat) = n % 2
  rw [key, IntKind.wrap_i64]
  omega
theorem u64s (j : Int) (h0 : 0 ≤ j) (h1 : j < 64) : IntKind.u64.wrap j = j := by
  simp [IntKind.wrap, IntKind.bits, IntKind.signed]; omega
theorem bit_ (D j : Nat) (h : j < 64) : Go.bits .and .i64 (shr .i64 (D : Int) (j : Int)) 1 = if D.testBit j = true then 1 else 0 := by
  rw [and1_]
  unfold shr
  rw [Int.toNat_natCast, show min j IntKind.i64.bits = j from Nat.min_eq_left (by show j ≤ 64; omega)]
  have e : ((D : Int) / 2 ^ j) % 2 = ((D / 2 ^ j % 2 : Nat) : Int) := by
    rw [Int.natCast_emod, Int.natCast_ediv, Int.natCast_pow]; rfl
  rw [e, Nat.testBit_eq_decide_div_mod_eq]
  by_cases c : D / 2 ^ j % 2 = 1
  · rw [c, if_pos (by simp)]; rfl
  · rw [if_neg (by simpa using c), show D / 2 ^ j % 2 = 0 by omega]; rfl
theorem shl1_ (j : Nat) (h : j ≤ 61) : shl .i64 1 (j : Int) = ((2 ^ j : Nat) : Int) := by
  unfold shl
  rw [Int.toNat_natCast, show min j IntKind.i64.bits = j from Nat.min_eq_left (by show j ≤ 64; omega), IntKind.wrap_i64]
  have h1 : 2 ^ j ≤ 2 ^ 61 := Nat.pow_le_pow_right (by omega) h
  have h0 : 0 < 2 ^ j := Nat.two_pow_pos j
  have e : (1 * 2 ^ j : Int) = ((2 ^ j : Nat) : Int) := by rw [Int.one_mul, Int.natCast_pow]; rfl
  rw [e]
  omega

/-- From some number of rounds on the answer is r. -/
def Ev {α : Type} (g : Nat → Option α) (r : α) : Prop := ∃ K, ∀ k, K ≤ k → g k = some r
theorem Ev.step {α : Type} {g h : Nat → Option α} {r : α} (e : ∀ k, g (k + 1) = h k) (hr : Ev h r) : Ev g r := by
  obtain ⟨K, hK⟩ := hr
  refine ⟨K + 1, fun k hk => ?_⟩
  obtain ⟨k, rfl⟩ : ∃ m, k = m + 1 := ⟨k - 1, by omega⟩
  rw [e]; exact hK k (by omega)
theorem Ev.now {α : Type} {g : Nat → Option α} {r : α} (e : ∀ k, g (k + 1) = some r) : Ev g r := Ev.step (h := fun _ => some r) e ⟨0, fun _ _ => rfl⟩
theorem Ev.bind {α β : Type} {c : Nat → Option α} {f : Nat → α → Option β} {t : α} {r : β} (hc : Ev c t) (hf : Ev (fun k => f k t) r) : Ev (fun k => (c k).bind (f k)) r := by
  obtain ⟨K, hK⟩ := hc
  obtain ⟨L, hL⟩ := hf
  exact ⟨K + L, fun k hk => by show (c k).bind (f k) = some r; rw [hK k (by omega)]; exact hL k (by omega)⟩
theorem Ev.eq {α : Type} {g h : Nat → Option α} {r : α} (e : ∀ k, g k = h k) (hr : Ev h r) : Ev g r := by
  obtain ⟨K, hK⟩ := hr
  exact ⟨K, fun k hk => by rw [e]; exact hK k hk⟩

theorem rd_get (l : List Int) (j : Nat) (h : j < l.length) : rd l (j : Int) = l[j] := by
  unfold rd; rw [Int.toNat_natCast, List.getD_eq_getElem?_getD, List.getElem?_eq_getElem h]; rfl
theorem has_l (l : List Int) (x : Int) (hl : l.length ≤ 1048576) : ∀ (d : Nat) (i : Nat), l.length - i = d → i ≤ l.length → ∀ r : Bool, (r = true ↔ x ∈ l.drop i) → Ev (fun k => spec_l00Has.l0 k l x (i : Int)) r := by
  intro d
  induction d with
  | zero =>
    intro i hd hi r hr
    have : r = false := by
      cases r with
      | false => rfl
      | true => have := hr.1 rfl; rw [List.drop_eq_nil_of_le (by omega)] at this; cases this
    subst this
    refine Ev.now (fun k => ?_)
    simp only [spec_l00Has.l0]
    rw [if_neg (by omega)]
  | succ d ih =>
    intro i hd hi r hr
    rw [List.drop_eq_getElem_cons (show i < l.length by omega), List.mem_cons] at hr
    have e : ∀ k, spec_l00Has.l0 (k + 1) l x (i : Int) = if rd l (i : Int) = x then some true else spec_l00Has.l0 k l x ((i + 1 : Nat) : Int) := by
      intro k
      simp only [spec_l00Has.l0]
      rw [if_pos (by omega), if_pos (by omega), w64 (n := (i : Int) + 1) (by omega) (by omega)]; rfl
    have hg := rd_get l i (by omega)
    by_cases q : rd l (i : Int) = x
    · have : r = true := hr.2 (.inl (by rw [← q, hg]))
      subst this
      exact Ev.now (fun k => by rw [e, if_pos q])
    · refine Ev.step (fun k => by rw [e, if_neg q]) (ih (i + 1) (by omega) (by omega) r (hr.trans ⟨fun h => h.elim (fun h => absurd (by rw [hg]; exact h.symm) q) id, .inr⟩))
theorem Has_ (l : List Int) (x : Int) (hl : l.length ≤ 1048576) : Ev (fun k => spec_l00Has.f k l x) (decide (x ∈ l)) :=
  has_l l x hl l.length 0 rfl (by omega) _ (by rw [List.drop_zero]; exact decide_eq_true_iff)

def bef (n g : Nat) : Nat := (g + n - 1) % n
def nxt (n g : Nat) : Nat := (g + 1) % n
/-- A gore may be pasted next, when those that p tells have been. -/
def fol (s : ByteArray) (n : Nat) (p : Nat → Bool) (g : Nat) : Bool := !p g && ((decide (bt s (bef n g : Int) = 60) || p (bef n g)) && (!decide (bt s (g : Int) = 60) || p (nxt n g)))
/-- All bytes tell seams. -/
def ltrs (s : ByteArray) : Prop := ∀ i : Int, 0 ≤ i → i < s.size → bt s i = 60 ∨ bt s i = 62
theorem tmod_nat (a b : Nat) : Int.tmod (a : Int) (b : Int) = ((a % b : Nat) : Int) := by
  rw [Int.tmod_eq_emod_of_nonneg (by omega)]; rfl
section
variable (s : ByteArray) (h2 : 2 ≤ s.size) (h12 : s.size ≤ 12)
include h2 h12
theorem tm_next (g : Nat) (hg : g < s.size) : Int.tmod (wrap64 ((g : Int) + 1)) (s.size : Int) = ((nxt s.size g : Nat) : Int) := by
  rw [w64 (by omega) (by omega), show (g : Int) + 1 = ((g + 1 : Nat) : Int) by omega, tmod_nat]; rfl
theorem tm_bef (g : Nat) (hg : g < s.size) : Int.tmod (wrap64 ((wrap64 ((g : Int) + (s.size : Int))) - 1)) (s.size : Int) = ((bef s.size g : Nat) : Int) := by
  rw [w64 (n := (g : Int) + (s.size : Int)) (by omega) (by omega), w64 (by omega) (by omega), show (g : Int) + (s.size : Int) - 1 = ((g + s.size - 1 : Nat) : Int) by omega, tmod_nat]; rfl
theorem nxt_lt (g : Nat) : nxt s.size g < s.size := Nat.mod_lt _ (by omega)
theorem bef_lt (g : Nat) : bef s.size g < s.size := Nat.mod_lt _ (by omega)
variable (hl : ltrs s)
include hl
theorem MayFollow_ (D g : Nat) (hg : g < s.size) : impl_mayFollow.f s (D : Int) (g : Int) = some (fol s s.size (fun j => D.testBit j) g) := by
  have hb := bef_lt s h2 h12 g
  have hn := nxt_lt s h2 h12 g
  have hl2 := hl (g : Int) (by omega) (by omega)
  unfold impl_mayFollow.f fol
  rw [if_neg (by omega), if_pos (by omega), tm_next s h2 h12 g hg, tm_bef s h2 h12 g hg, bit_ D g (by omega), bit_ D _ (by omega), bit_ D _ (by omega)]
  by_cases c : D.testBit g = true
  · rw [if_pos (show (if D.testBit g = true then (1 : Int) else 0) = 1 by rw [if_pos c])]; simp [c]
  rw [if_neg (show ¬ (if D.testBit g = true then (1 : Int) else 0) = 1 by rw [if_neg c]; omega), if_pos (by omega), if_pos (by omega), if_pos (by omega)]
  have hc : D.testBit g = false := by simpa using c
  have step : (if (g : Int) < (s.size : Int) then (if bt s (g : Int) = 62 then some true else some ((if D.testBit (nxt s.size g) = true then (1 : Int) else 0) == 1)) else none) = some (!decide (bt s (g : Int) = 60) || D.testBit (nxt s.size g)) := by
    rw [if_pos (by omega)]
    rcases hl2 with e | e
    · rw [e, if_neg (by omega)]; cases D.testBit (nxt s.size g) <;> rfl
    · rw [e, if_pos rfl]; rfl
  by_cases c1 : bt s (bef s.size g : Int) = 60
  · rw [if_pos c1, step]; simp [c1, hc]
  · rw [if_neg c1]
    by_cases c2 : D.testBit (bef s.size g) = true
    · rw [if_pos (show (if D.testBit (bef s.size g) = true then (1 : Int) else 0) = 1 by rw [if_pos c2]), step]; simp [c2, hc]
    · rw [if_neg (show ¬ (if D.testBit (bef s.size g) = true then (1 : Int) else 0) = 1 by rw [if_neg c2]; omega)]; simp [c1, c2]
omit hl in
theorem First_ (done : List Int) (hd : done.length ≤ 1000) (p : Nat → Bool) (hp : ∀ j : Nat, j < s.size → (p j = true ↔ (j : Int) ∈ done)) (g : Nat) (hg : g < s.size) (hpg : p g = false) : Ev (fun k => spec_l18First.f k s done (g : Int)) (fol s s.size p g) := by
  have hb := bef_lt s h2 h12 g
  have hn := nxt_lt s h2 h12 g
  have e1 : Ev (fun k => spec_l00Has.f k done ((nxt s.size g : Nat) : Int)) (p (nxt s.size g)) := by
    have := Has_ done ((nxt s.size g : Nat) : Int) (by omega)
    rw [show decide (((nxt s.size g : Nat) : Int) ∈ done) = p (nxt s.size g) from by rw [Bool.eq_iff_iff, decide_eq_true_iff]; exact (hp _ hn).symm] at this
    exact this
  have e2 : Ev (fun k => spec_l00Has.f k done ((bef s.size g : Nat) : Int)) (p (bef s.size g)) := by
    have := Has_ done ((bef s.size g : Nat) : Int) (by omega)
    rw [show decide (((bef s.size g : Nat) : Int) ∈ done) = p (bef s.size g) from by rw [Bool.eq_iff_iff, decide_eq_true_iff]; exact (hp _ hb).symm] at this
    exact this
  have tail : Ev (fun k => if bt s ((bef s.size g : Nat) : Int) = 60 then some true else (spec_l00Has.f k done ((bef s.size g : Nat) : Int)).bind fun t => some t) (decide (bt s (bef s.size g : Int) = 60) || p (bef s.size g)) := by
    by_cases c : bt s (bef s.size g : Int) = 60
    · exact ⟨0, fun k _ => by show (if bt s ((bef s.size g : Nat) : Int) = 60 then some true else _) = _; rw [if_pos c, decide_eq_true c]; rfl⟩
    · rw [decide_eq_false c, Bool.false_or]
      exact Ev.eq (h := fun k => (spec_l00Has.f k done ((bef s.size g : Nat) : Int)).bind fun t => some t) (fun k => by rw [if_neg c]) (Ev.bind e2 ⟨0, fun k _ => rfl⟩)
  by_cases c : bt s (g : Int) = 60
  · refine Ev.eq (h := fun k => (spec_l00Has.f k done ((nxt s.size g : Nat) : Int)).bind fun t => if t = true then (if bt s ((bef s.size g : Nat) : Int) = 60 then some true else (spec_l00Has.f k done ((bef s.size g : Nat) : Int)).bind fun t => some t) else some false) (fun k => ?_) (Ev.bind e1 ?_)
    · unfold spec_l18First.f
      rw [if_pos (by omega), if_pos (by omega), if_pos c, if_neg (by omega), tm_next s h2 h12 g hg, tm_bef s h2 h12 g hg]
      congr 1; funext t
      rw [if_pos (show (0 : Int) ≤ ((bef s.size g : Nat) : Int) by omega), if_pos (show ((bef s.size g : Nat) : Int) < (s.size : Int) by omega)]
    · unfold fol
      rw [hpg, decide_eq_true c]
      by_cases q : p (nxt s.size g) = true
      · rw [q]
        simp only [Bool.not_false, Bool.true_and, Bool.or_true, Bool.and_true]
        exact Ev.eq (fun k => by simp only [if_true]) tail
      · rw [show p (nxt s.size g) = false by simpa using q]
        exact ⟨0, fun k _ => by simp⟩
  · refine Ev.eq (h := fun k => if bt s ((bef s.size g : Nat) : Int) = 60 then some true else (spec_l00Has.f k done ((bef s.size g : Nat) : Int)).bind fun t => some t) (fun k => ?_) ?_
    · unfold spec_l18First.f
      rw [if_pos (by omega), if_pos (by omega), if_neg c, if_neg (by omega), tm_bef s h2 h12 g hg, if_pos (show (0 : Int) ≤ ((bef s.size g : Nat) : Int) by omega), if_pos (show ((bef s.size g : Nat) : Int) < (s.size : Int) by omega)]
    · unfold fol
      rw [hpg, decide_eq_false c]
      simp only [Bool.not_false, Bool.true_and, Bool.true_or, Bool.and_true]
      exact tail
end

theorem In_ (a b c : Int) : spec_l00In.f a b c = some (decide (b ≤ a ∧ a ≤ c)) := by
  unfold spec_l00In.f
  by_cases h : a ≥ b
  · rw [if_pos h]; simp [show b ≤ a from h]
  · rw [if_neg h]; simp [show ¬ b ≤ a from h]

theorem dw_nil (p : UInt8 → Bool) : ∀ l : List UInt8, l.dropWhile p = [] ↔ l.all p = true
  | [] => by simp
  | a :: l => by
    by_cases h : p a = true
    · rw [List.dropWhile_cons_of_pos h, dw_nil p l]; simp [h]
    · rw [List.dropWhile_cons_of_neg h]; simp [h]
theorem dw_all (p : UInt8 → Bool) : ∀ l : List UInt8, (l.dropWhile p).all p = true → l.all p = true
  | [], _ => rfl
  | a :: l, h => by
    by_cases q : p a = true
    · rw [List.dropWhile_cons_of_pos q] at h
      have := dw_all p l h
      simp only [List.all_cons, q, this, Bool.and_self]
    · rw [List.dropWhile_cons_of_neg q] at h; exact h
/-- Nothing is left of a text that is trimmed just if all its bytes are those of the set. -/
theorem trim_nil (l cs : List UInt8) : Lib.trimS l cs = [] ↔ l.all (cs.contains ·) = true := by
  unfold Lib.trimS Lib.trimLeftS
  rw [dw_nil]
  unfold Lib.trimRightS
  rw [List.all_reverse]
  constructor
  · intro h
    have := dw_all _ _ h
    rwa [List.all_reverse] at this
  · intro h
    rw [← List.all_reverse] at h
    rw [(dw_nil _ _).2 h]; rfl

theorem toList_bytes (s : ByteArray) : s.toList = s.data.toList := Lib.toList_data s
theorem bt_getElem (s : ByteArray) (i : Nat) (h : i < s.size) : bt s (i : Int) = ((s.data.toList[i]'(by simpa using h)).toNat : Int) := by
  rw [← bt_at s (i : Int) (by simpa using h)]
  congr 1
/-- A fact on all bytes of a text, by places and by the list. -/
theorem all_bytes (s : ByteArray) (p : Int → Bool) : (s.data.toList.all fun b => p (b.toNat : Int)) = true ↔ ∀ i : Int, 0 ≤ i → i < s.size → p (bt s i) = true := by
  rw [List.all_eq_true]
  constructor
  · intro h i h0 h1
    obtain ⟨n, rfl⟩ : ∃ n : Nat, i = (n : Int) := ⟨i.toNat, by omega⟩
    rw [bt_getElem s n (by omega)]
    exact h _ (List.getElem_mem _)
  · intro h b hb
    obtain ⟨n, hn, rfl⟩ := List.getElem_of_mem hb
    have hn2 : n < s.size := by simpa using hn
    have := h (n : Int) (by omega) (by omega)
    rwa [bt_getElem s n hn2] at this

def seamB (b : Int) : Bool := decide (b = 60) || decide (b = 62)
def wanB (s : ByteArray) : Bool := decide (2 ≤ s.size ∧ s.size ≤ 12) && s.data.toList.all fun b => seamB (b.toNat : Int)
theorem wanB_says {s : ByteArray} (h : wanB s = true) : 2 ≤ s.size ∧ s.size ≤ 12 ∧ ∀ i : Int, 0 ≤ i → i < s.size → bt s i = 60 ∨ bt s i = 62 := by
  unfold wanB at h
  rw [Bool.and_eq_true] at h
  have h1 := of_decide_eq_true h.1
  refine ⟨h1.1, h1.2, fun i i0 i1 => ?_⟩
  have := (all_bytes s seamB).1 h.2 i i0 i1
  unfold seamB at this
  simpa using this
def seamSet : ByteArray := ⟨#[60, 62]⟩
theorem seamSet_ (b : UInt8) : seamSet.data.toList.contains b = seamB (b.toNat : Int) := by
  have e : ∀ n : Fin 256, seamSet.data.toList.contains n.1.toUInt8 = seamB (n.1 : Int) := by decide +kernel
  have := e ⟨b.toNat, b.toNat_lt⟩
  simpa using this
theorem AreSeams_ (s : ByteArray) : impl_areSeams.f s = some (wanB s) := by
  unfold impl_areSeams.f
  by_cases h1 : (s.size : Int) ≥ 2
  · rw [if_pos h1]
    by_cases h2 : (s.size : Int) ≤ 12
    · rw [if_pos h2]
      show ((strings_Trim.f s seamSet).bind fun t => some (t.toList == ([] : List UInt8))) = some (wanB s)
      have ht : strings_Trim.f s seamSet = some ⟨(Lib.trimS s.data.toList seamSet.data.toList).toArray⟩ := by
        unfold strings_Trim.f
        rw [if_pos ⟨by omega, by decide, by decide⟩]
      rw [ht]; simp only [Option.bind_some]
      rw [toList_bytes]
      congr 1
      show ((Lib.trimS s.data.toList seamSet.data.toList) == []) = _
      have h := trim_nil s.data.toList seamSet.data.toList
      have e : (s.data.toList.all fun b => seamSet.data.toList.contains b) = (s.data.toList.all fun b => seamB (b.toNat : Int)) := by
        congr 1; funext b; exact seamSet_ b
      rw [e] at h
      unfold wanB
      rw [decide_eq_true (show 2 ≤ s.size ∧ s.size ≤ 12 by omega), Bool.true_and]
      cases q : (s.data.toList.all fun b => seamB (b.toNat : Int)) with
      | true => rw [h.2 q]; rfl
      | false =>
        cases z : Lib.trimS s.data.toList seamSet.data.toList with
        | nil => have := h.1 z; rw [this] at q; cases q
        | cons a l => rfl
    · rw [if_neg h2]; congr 1; unfold wanB; simp; omega
  · rw [if_neg h1]; congr 1; unfold wanB; simp; omega
theorem specWanted_l (s : ByteArray) (hs : s.size ≤ 1048576) : ∀ (d : Nat) (i : Int), (s.size : Int) - i = d → 0 ≤ i → ∀ r : Bool, (r = true ↔ (2 ≤ s.size ∧ s.size ≤ 12) ∧ ∀ j : Int, i ≤ j → j < s.size → seamB (bt s j) = true) → Ev (fun k => spec_l18Wanted.l0 k s i) r := by
  intro d
  induction d with
  | zero =>
    intro i hd h0 r hr
    have e : r = decide (2 ≤ (s.size : Int) ∧ (s.size : Int) ≤ 12) := by
      rw [Bool.eq_iff_iff, hr, decide_eq_true_iff]
      exact ⟨fun h => by omega, fun h => ⟨by omega, fun j _ _ => by omega⟩⟩
    rw [e]
    refine Ev.now (fun k => ?_)
    simp only [spec_l18Wanted.l0]
    rw [if_neg (by omega), In_]; rfl
  | succ d ih =>
    intro i hd h0 r hr
    have e : ∀ k, spec_l18Wanted.l0 (k + 1) s i = if seamB (bt s i) = true then spec_l18Wanted.l0 k s (i + 1) else some false := by
      intro k
      simp only [spec_l18Wanted.l0]
      rw [if_pos (by omega), if_pos h0, w64 (n := i + 1) (by omega) (by omega)]
      unfold seamB
      by_cases c1 : bt s i = 60
      · simp [c1]
      · by_cases c2 : bt s i = 62
        · simp [c2]
        · simp [c1, c2]
    by_cases c : seamB (bt s i) = true
    · refine Ev.step (fun k => by rw [e, if_pos c]) (ih (i + 1) (by omega) (by omega) r ?_)
      rw [hr]
      constructor
      · exact fun h => ⟨h.1, fun j j0 j1 => h.2 j (by omega) j1⟩
      · intro h
        refine ⟨h.1, fun j j0 j1 => ?_⟩
        by_cases z : j = i
        · subst z; exact c
        · exact h.2 j (by omega) j1
    · have : r = false := by
        cases r with
        | false => rfl
        | true => exact absurd ((hr.1 rfl).2 i (Int.le_refl _) (by omega)) c
      subst this
      exact Ev.now (fun k => by rw [e, if_neg c])
theorem SpecWanted_ (s : ByteArray) (hs : s.size ≤ 1048576) : Ev (fun k => spec_l18Wanted.f k s) (wanB s) :=
  specWanted_l s hs s.size 0 (by omega) (by omega) _ (by
    unfold wanB
    rw [Bool.and_eq_true, decide_eq_true_iff]
    exact and_congr_right (fun _ => all_bytes s seamB))

/-- From some number of rounds on there is an answer, one that is as told. -/
def EvP {α : Type} (g : Nat → Option α) (Q : α → Prop) : Prop := ∃ r, Q r ∧ Ev g r
theorem EvP.step {α : Type} {g h : Nat → Option α} {Q : α → Prop} (e : ∀ k, g (k + 1) = h k) (hr : EvP h Q) : EvP g Q := by
  obtain ⟨r, hq, hr⟩ := hr
  exact ⟨r, hq, Ev.step e hr⟩
theorem EvP.eq {α : Type} {g h : Nat → Option α} {Q : α → Prop} (e : ∀ k, g k = h k) (hr : EvP h Q) : EvP g Q := by
  obtain ⟨r, hq, hr⟩ := hr
  exact ⟨r, hq, Ev.eq e hr⟩
theorem EvP.bind {α β : Type} {c : Nat → Option α} {f : Nat → α → Option β} {P : α → Prop} {Q : β → Prop} (hc : EvP c P) (hf : ∀ t, P t → EvP (fun k => f k t) Q) : EvP (fun k => (c k).bind (f k)) Q := by
  obtain ⟨t, hp, hc⟩ := hc
  obtain ⟨r, hq, hr⟩ := hf t hp
  exact ⟨r, hq, Ev.bind hc hr⟩

def castL (l : List Nat) : List Int := l.map fun (j : Nat) => (j : Int)
theorem castL_len (l : List Nat) : (castL l).length = l.length := by simp [castL]
theorem castL_mem (l : List Nat) (j : Nat) : (j : Int) ∈ castL l ↔ j ∈ l := by
  unfold castL
  rw [List.mem_map]
  constructor
  · rintro ⟨x, hx, e⟩
    have : x = j := by omega
    rwa [this] at hx
  · exact fun h => ⟨j, h, rfl⟩
theorem castL_app (l : List Nat) (g : Nat) : castL (l ++ [g]) = castL l ++ [(g : Int)] := by simp [castL]

/-- The first gore from g on that may be pasted next. -/
def fst1 (s : ByteArray) (p : Nat → Bool) : Nat → Nat → Option Nat
  | 0, _ => none
  | d + 1, g => if fol s s.size p g = true then some g else fst1 s p d (g + 1)
theorem fst1_some (s : ByteArray) (p : Nat → Bool) : ∀ (d g j : Nat), fst1 s p d g = some j → g ≤ j ∧ j < g + d ∧ fol s s.size p j = true
  | 0, _, _, h => by cases h
  | d + 1, g, j, h => by
    unfold fst1 at h
    split at h
    · rename_i c; obtain rfl := Option.some.inj h; exact ⟨Nat.le_refl _, by omega, c⟩
    · have := fst1_some s p d (g + 1) j h; exact ⟨by omega, by omega, this.2.2⟩
theorem fst1_none (s : ByteArray) (p : Nat → Bool) : ∀ (d g : Nat), fst1 s p d g = none → ∀ j, g ≤ j → j < g + d → fol s s.size p j = false
  | 0, _, _, j, h1, h2 => by omega
  | d + 1, g, h, j, h1, h2 => by
    unfold fst1 at h
    split at h
    · cases h
    · rename_i c
      by_cases e : j = g
      · subst e; simpa using c
      · exact fst1_none s p d (g + 1) h j (by omega) (by omega)
def inL (out : List Nat) (j : Nat) : Bool := decide (j ∈ out)
/-- The order: the first gore that may follow, again and again. -/
def grd (s : ByteArray) : Nat → List Nat → List Nat
  | 0, out => out
  | d + 1, out => match fst1 s (inL out) s.size 0 with
    | none => out
    | some g => grd s d (out ++ [g])
theorem grd_len (s : ByteArray) : ∀ (d : Nat) (out : List Nat), out.length ≤ (grd s d out).length ∧ (grd s d out).length ≤ out.length + d
  | 0, out => ⟨Nat.le_refl _, Nat.le_refl _⟩
  | d + 1, out => by
    unfold grd
    split
    · exact ⟨Nat.le_refl _, by omega⟩
    · rename_i g _
      have := grd_len s d (out ++ [g])
      simp only [List.length_append, List.length_cons, List.length_nil] at this
      omega
section
variable (s : ByteArray) (h2 : 2 ≤ s.size) (h12 : s.size ≤ 12) (hl : ltrs s)
include h2 h12 hl
omit hl in
theorem specOrder_1 (out : List Nat) (ho : out.length ≤ 12) (r : List Int) : ∀ (d g : Nat), s.size - g = d → g ≤ s.size → Ev (fun k => match fst1 s (inL out) d g with | none => some (castL out) | some j => spec_l18Order.l0 k s (castL out ++ [(j : Int)])) r → Ev (fun k => spec_l18Order.l1 k s (castL out) (-1) (g : Int)) r := by
  intro d
  induction d with
  | zero =>
    intro g hd hg hr
    refine Ev.step (h := fun k => spec_l18Order.j2 k s (castL out) (-1) (g : Int) false) (fun k => ?_) (Ev.step (h := fun _ => some (castL out)) (fun k => ?_) hr)
    · simp only [spec_l18Order.l1]; rw [if_neg (by omega)]
    · simp only [spec_l18Order.j2, Bool.false_eq_true, if_false]; rw [if_pos (by omega)]
  | succ d ih =>
    intro g hd hg hr
    have hcl := castL_len out
    have found : fol s s.size (inL out) g = true → Ev (fun k => spec_l18Order.l1 k s (castL out) (g : Int) (wrap64 ((g : Int) + 1))) r := by
      intro c
      have hr2 : Ev (fun k => spec_l18Order.l0 k s (castL out ++ [(g : Int)])) r := by
        simp only [fst1, if_pos c] at hr; exact hr
      refine Ev.step (h := fun k => spec_l18Order.j2 k s (castL out) (g : Int) (wrap64 ((g : Int) + 1)) false) (fun k => ?_) (Ev.step (fun k => ?_) hr2)
      · simp only [spec_l18Order.l1]
        by_cases z : wrap64 ((g : Int) + 1) < (s.size : Int)
        · rw [if_pos z, decide_eq_false (show ¬ (g : Int) < 0 by omega)]
        · rw [if_neg z]
      · simp only [spec_l18Order.j2, Bool.false_eq_true, if_false]
        rw [if_neg (show ¬ (g : Int) < 0 by omega), if_pos (by omega)]
    have notf : fol s s.size (inL out) g = false → Ev (fun k => spec_l18Order.l1 k s (castL out) (-1) (wrap64 ((g : Int) + 1))) r := by
      intro c
      rw [w64 (by omega) (by omega), show (g : Int) + 1 = ((g + 1 : Nat) : Int) by omega]
      refine ih (g + 1) (by omega) (by omega) ?_
      simp only [fst1, c, Bool.false_eq_true, if_false] at hr; exact hr
    refine Ev.step (h := fun k => spec_l18Order.j2 k s (castL out) (-1) (g : Int) true) (fun k => ?_) ?_
    · simp only [spec_l18Order.l1]; rw [if_pos (by omega)]; rfl
    refine Ev.step (h := fun k => (spec_l00Has.f k (castL out) (g : Int)).bind fun t => if t = true then spec_l18Order.l1 k s (castL out) (-1) (wrap64 ((g : Int) + 1)) else (spec_l18First.f k s (castL out) (g : Int)).bind fun u => if u = true then spec_l18Order.l1 k s (castL out) (g : Int) (wrap64 ((g : Int) + 1)) else spec_l18Order.l1 k s (castL out) (-1) (wrap64 ((g : Int) + 1))) (fun k => by simp only [spec_l18Order.j2, if_true]) (Ev.bind (Has_ _ _ (by omega)) ?_)
    by_cases m : g ∈ out
    · have hm : decide ((g : Int) ∈ castL out) = true := decide_eq_true ((castL_mem out g).2 m)
      rw [hm]
      exact Ev.eq (fun k => by rw [if_pos rfl]) (notf (by unfold fol inL; simp [m]))
    · have hm : decide ((g : Int) ∈ castL out) = false := decide_eq_false (fun h => m ((castL_mem out g).1 h))
      rw [hm]
      have hF := First_ s h2 h12 (castL out) (by omega) (inL out) (fun j _ => by unfold inL; rw [decide_eq_true_iff, castL_mem]) g (by omega) (by unfold inL; simp [m])
      refine Ev.eq (h := fun k => (spec_l18First.f k s (castL out) (g : Int)).bind fun u => if u = true then spec_l18Order.l1 k s (castL out) (g : Int) (wrap64 ((g : Int) + 1)) else spec_l18Order.l1 k s (castL out) (-1) (wrap64 ((g : Int) + 1))) (fun k => by rw [if_neg (by simp)]) (Ev.bind hF ?_)
      cases c : fol s s.size (inL out) g with
      | true => exact Ev.eq (fun k => by rw [if_pos rfl]) (found c)
      | false => exact Ev.eq (fun k => by rw [if_neg (by simp)]) (notf c)
omit hl in
theorem specOrder_0 : ∀ (d : Nat) (out : List Nat), s.size - out.length = d → out.length ≤ s.size → Ev (fun k => spec_l18Order.l0 k s (castL out)) (castL (grd s d out)) := by
  intro d
  induction d with
  | zero =>
    intro out hd ho
    have hcl := castL_len out
    refine Ev.now (fun k => ?_)
    simp only [spec_l18Order.l0]; rw [if_neg (by omega)]; rfl
  | succ d ih =>
    intro out hd ho
    have hcl := castL_len out
    refine Ev.step (h := fun k => spec_l18Order.l1 k s (castL out) (-1) ((0 : Nat) : Int)) (fun k => ?_) (specOrder_1 s h2 h12 out (by omega) _ s.size 0 rfl (by omega) ?_)
    · simp only [spec_l18Order.l0]; rw [if_pos (by omega)]; rfl
    · unfold grd
      cases z : fst1 s (inL out) s.size 0 with
      | none => exact ⟨0, fun k _ => rfl⟩
      | some g =>
        have := ih (out ++ [g]) (by simp; omega) (by simp; omega)
        rw [castL_app] at this
        exact this
end
def bitsOf (out : List Nat) : Nat := out.foldl (fun D g => D ||| 2 ^ g) 0
theorem bitsOf_app (out : List Nat) (g : Nat) : bitsOf (out ++ [g]) = bitsOf out ||| 2 ^ g := by unfold bitsOf; rw [List.foldl_append]; rfl
theorem fold_test : ∀ (out : List Nat) (D j : Nat), (out.foldl (fun D g => D ||| 2 ^ g) D).testBit j = (D.testBit j || decide (j ∈ out))
  | [], D, j => by simp
  | g :: out, D, j => by
    rw [List.foldl_cons, fold_test out, Nat.testBit_or, Nat.testBit_two_pow]
    by_cases e : g = j
    · subst e; simp
    · simp [e, Ne.symm e]
theorem bitsOf_test (out : List Nat) (j : Nat) : (bitsOf out).testBit j = inL out j := by
  unfold bitsOf; rw [fold_test]; simp [inL]
theorem fold_lt (n : Nat) : ∀ (out : List Nat) (D : Nat), D < 2 ^ n → (∀ g ∈ out, g < n) → out.foldl (fun D g => D ||| 2 ^ g) D < 2 ^ n
  | [], D, h, _ => h
  | g :: out, D, h, hg => by
    rw [List.foldl_cons]
    exact fold_lt n out _ (Nat.or_lt_two_pow h (Nat.pow_lt_pow_right (by omega) (hg g List.mem_cons_self))) (fun x hx => hg x (List.mem_cons_of_mem _ hx))
theorem bitsOf_lt (n : Nat) (out : List Nat) (h : ∀ g ∈ out, g < n) : bitsOf out < 2 ^ n := fold_lt n out 0 (Nat.two_pow_pos n) h
def ordR (s : ByteArray) : List Int × Int := if wanB s = true then (if (grd s s.size []).length < s.size then ([], 3) else (castL (grd s s.size []), 0)) else ([], 7)
theorem ordR_len (s : ByteArray) : (ordR s).1.length ≤ 12 := by
  unfold ordR
  by_cases w : wanB s = true
  · rw [if_pos w]
    have := (wanB_says w).2.1
    split
    · simp
    · show (castL _).length ≤ 12
      rw [castL_len]
      have := (grd_len s s.size []).2
      simp at this; omega
  · rw [if_neg w]; simp
theorem SpecOrderFor_ (s : ByteArray) (hs : s.size ≤ 1048576) : Ev (fun k => spec_OrderFor.f k s) (ordR s) := by
  refine Ev.eq (h := fun k => (spec_l18Wanted.f k s).bind fun t => if t = true then ((spec_l18Order.f k s).bind fun u => if (u.length : Int) < (s.size : Int) then some ([], 3) else some (u, 0)) else some ([], 7)) (fun k => rfl) (Ev.bind (SpecWanted_ s hs) ?_)
  unfold ordR
  by_cases w : wanB s = true
  · obtain ⟨w1, w2, w3⟩ := wanB_says w
    rw [if_pos w]
    refine Ev.eq (h := fun k => (spec_l18Order.f k s).bind fun u => if (u.length : Int) < (s.size : Int) then some ([], 3) else some (u, 0)) (fun k => by rw [if_pos w]) (Ev.bind (t := castL (grd s s.size [])) (specOrder_0 s w1 w2 s.size [] (by simp) (by simp)) ⟨0, fun k _ => ?_⟩)
    show (if ((castL (grd s s.size [])).length : Int) < (s.size : Int) then some (([] : List Int), (3 : Int)) else some (castL (grd s s.size []), 0)) = _
    rw [castL_len]
    by_cases c : (grd s s.size []).length < s.size
    · rw [if_pos c, if_pos (by omega)]
    · rw [if_neg c, if_neg (by omega)]
  · rw [if_neg w]
    exact ⟨0, fun k _ => if_neg w⟩
section
variable (s : ByteArray) (h2 : 2 ≤ s.size) (h12 : s.size ≤ 12) (hl : ltrs s)
include h2 h12 hl
theorem implOrder_1 (out : List Nat) (ho : out.length ≤ 12) (hin : ∀ g ∈ out, g < s.size) (r : List Int × Int) : ∀ (d g : Nat), s.size - g = d → g ≤ s.size → Ev (fun k => match fst1 s (inL out) d g with | none => some ([], 3) | some j => impl_OrderFor.l0 k s (castL out ++ [(j : Int)]) ((bitsOf (out ++ [j]) : Nat) : Int)) r → Ev (fun k => impl_OrderFor.l1 k s (castL out) ((bitsOf out : Nat) : Int) (g : Int)) r := by
  have hcl := castL_len out
  intro d
  induction d with
  | zero =>
    intro g hd hg hr
    refine Ev.step (h := fun _ => some ([], 3)) (fun k => ?_) hr
    simp only [impl_OrderFor.l1]
    rw [if_neg (by omega), if_pos (by omega)]
  | succ d ih =>
    intro g hd hg hr
    have hM := MayFollow_ s h2 h12 hl (bitsOf out) g (by omega)
    have hf : (fun j => (bitsOf out).testBit j) = inL out := by funext j; exact bitsOf_test out j
    rw [hf] at hM
    by_cases c : fol s s.size (inL out) g = true
    · have hr2 : Ev (fun k => impl_OrderFor.l0 k s (castL out ++ [(g : Int)]) ((bitsOf (out ++ [g]) : Nat) : Int)) r := by
        simp only [fst1, if_pos c] at hr; exact hr
      refine Ev.step (fun k => ?_) hr2
      have hb := bitsOf_lt s.size out hin
      have hp : 2 ^ s.size ≤ 2 ^ 12 := Nat.pow_le_pow_right (by omega) h12
      have hp2 : 2 ^ g ≤ 2 ^ 12 := Nat.pow_le_pow_right (by omega) (by omega)
      simp only [impl_OrderFor.l1]
      rw [if_pos (by omega), hM, c]; simp only [Option.bind_some, if_true]
      rw [if_neg (by omega), if_pos (by omega), if_pos (by omega), shl1_ g (by omega), or_nat _ _ (by omega) (by omega), bitsOf_app]
    · have hr2 := hr
      simp only [fst1, if_neg c] at hr2
      refine Ev.step (fun k => ?_) (ih (g + 1) (by omega) (by omega) hr2)
      simp only [impl_OrderFor.l1]
      rw [if_pos (by omega), hM, show fol s s.size (inL out) g = false by simpa using c]; simp only [Option.bind_some, Bool.false_eq_true, if_false]
      rw [w64 (n := (g : Int) + 1) (by omega) (by omega)]; rfl
theorem implOrder_0 : ∀ (d : Nat) (out : List Nat), s.size - out.length = d → out.length ≤ s.size → (∀ g ∈ out, g < s.size) → Ev (fun k => impl_OrderFor.l0 k s (castL out) ((bitsOf out : Nat) : Int)) (if (grd s d out).length < s.size then ([], 3) else (castL (grd s d out), 0)) := by
  intro d
  induction d with
  | zero =>
    intro out hd ho hin
    have hcl := castL_len out
    rw [show grd s 0 out = out from rfl, if_neg (by omega)]
    refine Ev.now (fun k => ?_)
    simp only [impl_OrderFor.l0]; rw [if_neg (by omega)]
  | succ d ih =>
    intro out hd ho hin
    have hcl := castL_len out
    refine Ev.step (h := fun k => impl_OrderFor.l1 k s (castL out) ((bitsOf out : Nat) : Int) ((0 : Nat) : Int)) (fun k => ?_) (implOrder_1 s h2 h12 hl out (by omega) hin _ s.size 0 rfl (by omega) ?_)
    · simp only [impl_OrderFor.l0]; rw [if_pos (by omega)]; rfl
    · cases z : fst1 s (inL out) s.size 0 with
      | none =>
        have hg : grd s (d + 1) out = out := by simp only [grd, z]
        rw [hg, if_pos (by omega)]
        exact ⟨0, fun k _ => rfl⟩
      | some g =>
        have hg : grd s (d + 1) out = grd s d (out ++ [g]) := by simp only [grd, z]
        rw [hg]
        have hz := fst1_some s _ _ _ _ z
        have := ih (out ++ [g]) (by simp; omega) (by simp; omega) (fun x hx => by
          rcases List.mem_append.1 hx with hx | hx
          · exact hin x hx
          · rw [List.mem_singleton.1 hx]; omega)
        rw [castL_app] at this
        exact this
end
theorem ImplOrderFor_ (s : ByteArray) : Ev (fun k => impl_OrderFor.f k s) (ordR s) := by
  refine Ev.eq (h := fun k => if wanB s = true then impl_OrderFor.l0 k s [] 0 else some ([], 7)) (fun k => by unfold impl_OrderFor.f; rw [AreSeams_]; rfl) ?_
  unfold ordR
  by_cases w : wanB s = true
  · obtain ⟨w1, w2, w3⟩ := wanB_says w
    rw [if_pos w]
    exact Ev.eq (fun k => by rw [if_pos w]; rfl) (implOrder_0 s w1 w2 w3 s.size [] (by simp) (by simp) (fun g hg => by cases hg))
  · rw [if_neg w]
    exact ⟨0, fun k _ => if_neg w⟩

def rmv (E g : Nat) : Nat := E ^^^ 2 ^ g
theorem rmv_test (E g j : Nat) : (rmv E g).testBit j = (E.testBit j ^^ decide (g = j)) := by
  unfold rmv; rw [Nat.testBit_xor, Nat.testBit_two_pow]
theorem rmv_or {E g : Nat} (h : E.testBit g = true) : rmv E g ||| 2 ^ g = E := by
  apply Nat.eq_of_testBit_eq
  intro j
  rw [Nat.testBit_or, rmv_test, Nat.testBit_two_pow]
  by_cases e : g = j
  · subst e; simp [h]
  · simp [e]
theorem or_lt {D g : Nat} (h : D.testBit g = false) : D < D ||| 2 ^ g := by
  have h1 : D ≤ D ||| 2 ^ g := Nat.left_le_or
  have h2 : D ≠ D ||| 2 ^ g := by
    intro e
    have : (D ||| 2 ^ g).testBit g = true := by rw [Nat.testBit_or, Nat.testBit_two_pow]; simp
    rw [← e, h] at this; cases this
  omega
theorem rmv_lt {E g : Nat} (h : E.testBit g = true) : rmv E g < E := by
  have h1 : (rmv E g).testBit g = false := by rw [rmv_test, h]; simp
  have := or_lt h1
  rwa [rmv_or h] at this
theorem or_rmv {D g : Nat} (h : D.testBit g = false) : rmv (D ||| 2 ^ g) g = D := by
  apply Nat.eq_of_testBit_eq
  intro j
  rw [rmv_test, Nat.testBit_or, Nat.testBit_two_pow]
  by_cases e : g = j
  · subst e; simp [h]
  · simp [e]
def sumN (f : Nat → Int) : Nat → Int
  | 0 => 0
  | m + 1 => sumN f m + f m
theorem sumN_eq (f g : Nat → Int) : ∀ m : Nat, (∀ i, i < m → f i = g i) → sumN f m = sumN g m
  | 0, _ => rfl
  | m + 1, h => by unfold sumN; rw [sumN_eq f g m (fun i hi => h i (by omega)), h m (by omega)]
theorem sumN_zero (f : Nat → Int) : ∀ m : Nat, (∀ i, i < m → f i = 0) → sumN f m = 0
  | 0, _ => rfl
  | m + 1, h => by unfold sumN; rw [sumN_zero f m (fun i hi => h i (by omega)), h m (by omega)]; rfl
theorem sumN_nonneg (f : Nat → Int) : ∀ m : Nat, (∀ i, i < m → 0 ≤ f i) → 0 ≤ sumN f m
  | 0, _ => Int.le_refl _
  | m + 1, h => by have h1 := sumN_nonneg f m (fun i hi => h i (by omega)); have h2 := h m (by omega); unfold sumN; omega
theorem sumN_le (f g : Nat → Int) : ∀ m : Nat, (∀ i, i < m → f i ≤ g i) → sumN f m ≤ sumN g m
  | 0, _ => Int.le_refl _
  | m + 1, h => by have h1 := sumN_le f g m (fun i hi => h i (by omega)); have h2 := h m (by omega); unfold sumN; omega
theorem sumN_bd (f : Nat → Int) (B : Int) : ∀ m : Nat, (∀ i, i < m → f i ≤ B) → sumN f m ≤ m * B
  | 0, _ => by simp [sumN]
  | m + 1, h => by
    have h1 := sumN_bd f B m (fun i hi => h i (by omega)); have h2 := h m (by omega)
    have e : ((m + 1 : Nat) : Int) * B = m * B + B := by rw [Int.natCast_add, Int.add_mul]; simp
    unfold sumN; omega
theorem sumN_one (f g : Nat → Int) (j : Nat) : ∀ m : Nat, j < m → (∀ i, i < m → i ≠ j → f i = g i) → sumN g m = sumN f m + (g j - f j)
  | 0, hj, _ => by omega
  | m + 1, hj, h => by
    unfold sumN
    by_cases e : j = m
    · subst e
      rw [sumN_eq g f j (fun i hi => (h i (by omega) (by omega)).symm)]; omega
    · rw [sumN_one f g j m (by omega) (fun i hi hne => h i (by omega) hne), h m (by omega) (fun z => e z.symm)]; omega
def pcn (E : Nat) : Nat → Nat
  | 0 => 0
  | m + 1 => pcn E m + if E.testBit m = true then 1 else 0
theorem pcn_le (E : Nat) : ∀ m, pcn E m ≤ m
  | 0 => Nat.le_refl _
  | m + 1 => by have := pcn_le E m; unfold pcn; split <;> omega
theorem pcn_rmv {E g : Nat} (h : E.testBit g = true) : ∀ m, pcn E m = pcn (rmv E g) m + if g < m then 1 else 0
  | 0 => rfl
  | m + 1 => by
    have ih := pcn_rmv h m
    unfold pcn
    rw [ih, rmv_test]
    by_cases e : g = m
    · subst e; rw [h]; simp
    · by_cases c : g < m
      · rw [if_pos c, if_pos (show g < m + 1 by omega)]; simp [e]; split <;> omega
      · rw [if_neg c, if_neg (show ¬ g < m + 1 by omega)]; simp [e]
/-- How often a set is reached over a set with one gore less. -/
def trm (V : Nat → Int) (s : ByteArray) (E g : Nat) : Int := if E.testBit g = true ∧ fol s s.size (fun j => (rmv E g).testBit j) g = true then V (rmv E g) else 0
def VF (s : ByteArray) : Nat → Nat → Int
  | 0, _ => 0
  | F + 1, E => if E = 0 then 1 else sumN (fun g => trm (VF s F) s E g) s.size
theorem VF_stable (s : ByteArray) : ∀ E F : Nat, E < F → VF s F E = VF s (E + 1) E := by
  intro E
  induction E using Nat.strongRecOn with
  | _ E ih =>
    intro F hF
    obtain ⟨F, rfl⟩ : ∃ m, F = m + 1 := ⟨F - 1, by omega⟩
    unfold VF
    by_cases z : E = 0
    · rw [if_pos z, if_pos z]
    · rw [if_neg z, if_neg z]
      apply sumN_eq
      intro g _
      unfold trm
      by_cases c : E.testBit g = true ∧ fol s s.size (fun j => (rmv E g).testBit j) g = true
      · have hl := rmv_lt c.1
        rw [if_pos c, if_pos c, ih _ hl F (by omega), ih _ hl E hl]
      · rw [if_neg c, if_neg c]
/-- In how many orders just the gores of a set can be pasted first. -/
def VV (s : ByteArray) (E : Nat) : Int := VF s (E + 1) E
theorem VV_eq (s : ByteArray) (E : Nat) : VV s E = if E = 0 then 1 else sumN (fun g => trm (VV s) s E g) s.size := by
  show VF s (E + 1) E = _
  unfold VF
  by_cases z : E = 0
  · rw [if_pos z, if_pos z]
  · rw [if_neg z, if_neg z]
    apply sumN_eq
    intro g _
    unfold trm
    by_cases c : E.testBit g = true ∧ fol s s.size (fun j => (rmv E g).testBit j) g = true
    · rw [if_pos c, if_pos c, VF_stable s _ E (rmv_lt c.1)]; rfl
    · rw [if_neg c, if_neg c]
theorem VV_nonneg (s : ByteArray) : ∀ E : Nat, 0 ≤ VV s E := by
  intro E
  induction E using Nat.strongRecOn with
  | _ E ih =>
    rw [VV_eq]
    split
    · omega
    · apply sumN_nonneg
      intro g _
      unfold trm
      split
      · rename_i c; exact ih _ (rmv_lt c.1)
      · omega
theorem trm_nonneg (s : ByteArray) (E g : Nat) : 0 ≤ trm (VV s) s E g := by
  unfold trm; split
  · exact VV_nonneg s _
  · omega
theorem VV_le (s : ByteArray) (h12 : s.size ≤ 12) : ∀ E : Nat, VV s E ≤ ((12 ^ pcn E s.size : Nat) : Int) := by
  intro E
  induction E using Nat.strongRecOn with
  | _ E ih =>
    rw [VV_eq]
    have h1 : 0 < 12 ^ pcn E s.size := Nat.pow_pos (by omega)
    split
    · omega
    · by_cases p0 : pcn E s.size = 0
      · rw [sumN_zero]
        · omega
        · intro g hg
          unfold trm
          rw [if_neg]
          intro c
          have := pcn_rmv c.1 s.size
          rw [if_pos hg] at this; omega
      · have hb : ∀ g, g < s.size → trm (VV s) s E g ≤ ((12 ^ (pcn E s.size - 1) : Nat) : Int) := by
          intro g hg
          unfold trm
          split
          · rename_i c
            have h3 := ih _ (rmv_lt c.1)
            have h4 := pcn_rmv c.1 s.size
            rw [if_pos hg] at h4
            rw [show pcn E s.size - 1 = pcn (rmv E g) s.size by omega]; exact h3
          · have : 0 < 12 ^ (pcn E s.size - 1) := Nat.pow_pos (by omega)
            omega
        have h5 := sumN_bd (fun g => trm (VV s) s E g) _ s.size hb
        have h6 : 12 ^ pcn E s.size = 12 * 12 ^ (pcn E s.size - 1) := by
          obtain ⟨m, hm⟩ : ∃ m, pcn E s.size = m + 1 := ⟨pcn E s.size - 1, by omega⟩
          rw [hm, show m + 1 - 1 = m from rfl, Nat.pow_succ, Nat.mul_comm]
        have h7 : s.size * 12 ^ (pcn E s.size - 1) ≤ 12 * 12 ^ (pcn E s.size - 1) := Nat.mul_le_mul_right _ h12
        have h8 : (s.size : Int) * ((12 ^ (pcn E s.size - 1) : Nat) : Int) = ((s.size * 12 ^ (pcn E s.size - 1) : Nat) : Int) := by rw [Int.natCast_mul]
        rw [h8] at h5
        omega
theorem VV_bd (s : ByteArray) (h12 : s.size ≤ 12) (E : Nat) : VV s E ≤ 8916100448256 := by
  have h1 := VV_le s h12 E
  have h2 : 12 ^ pcn E s.size ≤ 12 ^ 12 := Nat.pow_le_pow_right (by omega) (by have := pcn_le E s.size; omega)
  have h3 : (12 : Nat) ^ 12 = 8916100448256 := by decide
  omega

/-- Gores in an order in which each may follow those ahead of it. -/
def Vl (s : ByteArray) (out : List Nat) : Prop := ∀ i : Nat, (h : i < out.length) → fol s s.size (inL (out.take i)) (out[i]) = true
theorem Vl_nil (s : ByteArray) : Vl s [] := fun i h => by simp at h
theorem Vl_app {s : ByteArray} {out : List Nat} {g : Nat} (h : Vl s out) (hg : fol s s.size (inL out) g = true) : Vl s (out ++ [g]) := by
  intro i hi
  by_cases c : i < out.length
  · have := h i c
    rw [List.getElem_append_left c, List.take_append_of_le_length (by omega)]; exact this
  · have e : i = out.length := by simp at hi; omega
    subst e
    rw [List.getElem_append_right (Nat.le_refl _)]
    simpa using hg
theorem fol_not {s : ByteArray} {p : Nat → Bool} {g : Nat} (h : fol s s.size p g = true) : p g = false := by
  unfold fol at h
  cases z : p g with
  | false => rfl
  | true => simp [z] at h
theorem fol_mono {s : ByteArray} {p q : Nat → Bool} {g : Nat} (hpq : ∀ j, p j = true → q j = true) (hq : q g = false) (h : fol s s.size p g = true) : fol s s.size q g = true := by
  unfold fol at h ⊢
  rw [hq]
  simp only [Bool.not_false, Bool.true_and, Bool.and_eq_true, Bool.or_eq_true] at h ⊢
  refine ⟨?_, ?_⟩
  · rcases h.2.1 with a | a
    · exact .inl a
    · exact .inr (hpq _ a)
  · rcases h.2.2 with a | a
    · exact .inl a
    · exact .inr (hpq _ a)
theorem Vl_nodup {s : ByteArray} {out : List Nat} (h : Vl s out) : out.Nodup := by
  rw [List.nodup_iff_pairwise_ne, List.pairwise_iff_getElem]
  intro i j hi hj hij e
  have := fol_not (h j hj)
  unfold inL at this
  have hm := of_decide_eq_false this
  exact hm (List.mem_take_iff_getElem.2 ⟨i, by omega, e⟩)
theorem sub_le : ∀ (l m : List Nat), l.Nodup → (∀ x ∈ l, x ∈ m) → l.length ≤ m.length
  | [], m, _, _ => Nat.zero_le _
  | a :: l, m, hn, hs => by
    have h1 := List.nodup_cons.1 hn
    have ha := hs a List.mem_cons_self
    have := sub_le l (m.erase a) h1.2 (fun x hx => by
      rw [List.mem_erase_of_ne (fun e => h1.1 (by rw [← e]; exact hx))]
      exact hs x (List.mem_cons_of_mem _ hx))
    rw [List.length_erase_of_mem ha] at this
    have : 0 < m.length := List.length_pos_of_mem ha
    simp only [List.length_cons]; omega
theorem grd_Vl (s : ByteArray) : ∀ (d : Nat) (out : List Nat), Vl s out → (∀ g ∈ out, g < s.size) → Vl s (grd s d out) ∧ ∀ g ∈ grd s d out, g < s.size
  | 0, out, h, hin => ⟨h, hin⟩
  | d + 1, out, h, hin => by
    unfold grd
    cases z : fst1 s (inL out) s.size 0 with
    | none => exact ⟨h, hin⟩
    | some g =>
      have hz := fst1_some s _ _ _ _ z
      exact grd_Vl s d (out ++ [g]) (Vl_app h hz.2.2) (fun x hx => by
        rcases List.mem_append.1 hx with hx | hx
        · exact hin x hx
        · rw [List.mem_singleton.1 hx]; omega)
/-- Where there is an order of all gores, a short one goes on. -/
theorem goes_on {s : ByteArray} {q out : List Nat} (hq : Vl s q) (hql : q.length = s.size) (hqi : ∀ g ∈ q, g < s.size) (ho : out.length < s.size) : ∃ g, g < s.size ∧ fol s s.size (inL out) g = true := by
  have hne : ∃ i : Nat, ∃ h : i < q.length, q[i] ∉ out := by
    apply Classical.byContradiction
    intro hc
    have : ∀ x ∈ q, x ∈ out := by
      intro x hx
      obtain ⟨i, hi, rfl⟩ := List.getElem_of_mem hx
      apply Classical.byContradiction
      intro hn; exact hc ⟨i, hi, hn⟩
    have := sub_le q out (Vl_nodup hq) this
    omega
  obtain ⟨i, hi⟩ := hne
  have least : ∀ i : Nat, (∃ h : i < q.length, q[i] ∉ out) → ∃ g, g < s.size ∧ fol s s.size (inL out) g = true := by
    intro i
    induction i using Nat.strongRecOn with
    | _ i ih =>
      rintro ⟨hl, hn⟩
      by_cases c : ∃ j : Nat, j < i ∧ ∃ h : j < q.length, q[j] ∉ out
      · obtain ⟨j, hj, h⟩ := c; exact ih j hj h
      · refine ⟨q[i], hqi _ (List.getElem_mem _), fol_mono (p := inL (q.take i)) (fun x hx => ?_) (by unfold inL; exact decide_eq_false hn) (hq i hl)⟩
        unfold inL at hx ⊢
        obtain ⟨j, hj, e⟩ := List.mem_take_iff_getElem.1 (of_decide_eq_true hx)
        apply decide_eq_true
        apply Classical.byContradiction
        intro hx2
        exact c ⟨j, by omega, by omega, by rw [e]; exact hx2⟩
  exact least i hi
theorem grd_full {s : ByteArray} {q : List Nat} (hq : Vl s q) (hql : q.length = s.size) (hqi : ∀ g ∈ q, g < s.size) : ∀ (d : Nat) (out : List Nat), out.length + d = s.size → (grd s d out).length = s.size
  | 0, out, h => by unfold grd; omega
  | d + 1, out, h => by
    obtain ⟨g, hg, hf⟩ := goes_on hq hql hqi (out := out) (by omega)
    unfold grd
    cases z : fst1 s (inL out) s.size 0 with
    | none => have := fst1_none s _ _ _ z g (by omega) (by omega); rw [hf] at this; cases this
    | some g2 => exact grd_full hq hql hqi d (out ++ [g2]) (by simp; omega)
theorem VV_path (s : ByteArray) : ∀ E : Nat, 0 < VV s E → ∃ out : List Nat, Vl s out ∧ (∀ g ∈ out, g < s.size) ∧ ∀ j, inL out j = E.testBit j := by
  intro E
  induction E using Nat.strongRecOn with
  | _ E ih =>
    intro h
    rw [VV_eq] at h
    by_cases z : E = 0
    · exact ⟨[], Vl_nil s, (fun g hg => by cases hg), (fun j => by rw [z]; simp [inL])⟩
    · rw [if_neg z] at h
      have : ∃ g, g < s.size ∧ 0 < trm (VV s) s E g := by
        apply Classical.byContradiction
        intro hc
        have := sumN_le (fun g => trm (VV s) s E g) (fun _ => 0) s.size (fun i hi => by
          apply Classical.byContradiction
          intro hn; exact hc ⟨i, hi, by have : ¬ trm (VV s) s E i ≤ 0 := hn; omega⟩)
        rw [sumN_zero (fun _ => 0) s.size (fun _ _ => rfl)] at this
        omega
      obtain ⟨g, hg, ht⟩ := this
      unfold trm at ht
      split at ht
      · rename_i c
        obtain ⟨out, o1, o2, o3⟩ := ih _ (rmv_lt c.1) ht
        have hp : inL out = fun j => (rmv E g).testBit j := by funext j; exact o3 j
        refine ⟨out ++ [g], Vl_app o1 (by rw [hp]; exact c.2), fun x hx => ?_, fun j => ?_⟩
        · rcases List.mem_append.1 hx with hx | hx
          · exact o2 x hx
          · rw [List.mem_singleton.1 hx]; exact hg
        · have e : inL (out ++ [g]) j = (inL out j || decide (j = g)) := by unfold inL; simp
          rw [e, o3 j, rmv_test]
          by_cases q : g = j
          · subst q; rw [c.1]; simp
          · simp [q, Ne.symm q]
      · omega
theorem path_VV {s : ByteArray} : ∀ (m : Nat) (out : List Nat), out.length = m → Vl s out → (∀ g ∈ out, g < s.size) → 0 < VV s (bitsOf out)
  | 0, out, hm, _, _ => by
    rw [List.eq_nil_of_length_eq_zero hm]
    show 0 < VV s 0
    rw [VV_eq]; simp
  | m + 1, out, hm, h, hin => by
    obtain ⟨o, g, rfl⟩ : ∃ o g, out = o ++ [g] := ⟨out.dropLast, out.getLast (by intro e; rw [e] at hm; cases hm), (List.dropLast_concat_getLast _).symm⟩
    have hl : o.length = m := by simp at hm; exact hm
    have ho : Vl s o := by
      intro i hi
      have := h i (by simp; omega)
      rw [List.getElem_append_left hi, List.take_append_of_le_length (by omega)] at this; exact this
    have ih := path_VV m o hl ho (fun x hx => hin x (List.mem_append_left _ hx))
    have hf : fol s s.size (inL o) g = true := by
      have := h o.length (by simp)
      rw [List.getElem_append_right (Nat.le_refl _)] at this
      simpa using this
    have hg : g < s.size := hin g (by simp)
    rw [bitsOf_app]
    have hb : (bitsOf o).testBit g = false := by rw [bitsOf_test]; exact fol_not hf
    have hr := or_rmv hb
    have hne : ¬ (bitsOf o ||| 2 ^ g) = 0 := by have := or_lt hb; omega
    rw [VV_eq, if_neg hne]
    have ht : trm (VV s) s (bitsOf o ||| 2 ^ g) g = VV s (bitsOf o) := by
      unfold trm
      rw [hr, if_pos ⟨by rw [Nat.testBit_or, Nat.testBit_two_pow]; simp, by
        rw [show (fun j => (bitsOf o).testBit j) = inL o from by funext j; exact bitsOf_test o j]; exact hf⟩]
    have := sumN_le (fun i => if i = g then VV s (bitsOf o) else 0) (fun i => trm (VV s) s (bitsOf o ||| 2 ^ g) i) s.size (fun i _ => by
      show (if i = g then VV s (bitsOf o) else 0) ≤ trm (VV s) s (bitsOf o ||| 2 ^ g) i
      by_cases e : i = g
      · subst e; rw [if_pos rfl, ht]; exact Int.le_refl _
      · rw [if_neg e]; exact trm_nonneg s _ _)
    have e1 := sumN_one (fun _ => 0) (fun i => if i = g then VV s (bitsOf o) else 0) g s.size hg (fun i _ hne => by rw [if_neg hne])
    rw [sumN_zero (fun _ => 0) s.size (fun _ _ => rfl)] at e1
    simp only [if_true] at e1
    omega
theorem full_path {s : ByteArray} {out : List Nat} (h : Vl s out) (hin : ∀ g ∈ out, g < s.size) (hall : ∀ j, j < s.size → j ∈ out) : out.length = s.size := by
  have h1 := sub_le out (List.range s.size) (Vl_nodup h) (fun x hx => List.mem_range.2 (hin x hx))
  have h2 := sub_le (List.range s.size) out List.nodup_range (fun x hx => hall x (List.mem_range.1 hx))
  rw [List.length_range] at h1 h2
  omega
/-- Some orders are counted just if one is found. -/
theorem count_iff (s : ByteArray) : 0 < VV s (2 ^ s.size - 1) ↔ (grd s s.size []).length = s.size := by
  constructor
  · intro h
    obtain ⟨out, o1, o2, o3⟩ := VV_path s _ h
    have hl := full_path o1 o2 (fun j hj => by
      have := o3 j
      rw [Nat.testBit_two_pow_sub_one, decide_eq_true hj] at this
      unfold inL at this
      exact of_decide_eq_true this)
    exact grd_full o1 hl o2 s.size [] (by simp)
  · intro h
    obtain ⟨g1, g2⟩ := grd_Vl s s.size [] (Vl_nil s) (fun g hg => by cases hg)
    have hb : bitsOf (grd s s.size []) = 2 ^ s.size - 1 := by
      apply Nat.eq_of_testBit_eq
      intro j
      rw [bitsOf_test, Nat.testBit_two_pow_sub_one]
      unfold inL
      rw [Bool.eq_iff_iff, decide_eq_true_iff, decide_eq_true_iff]
      constructor
      · exact fun hj => g2 j hj
      · intro hj
        apply Classical.byContradiction
        intro hn
        have := sub_le (List.range s.size) ((grd s s.size []) |>.filter (fun _ => true)) List.nodup_range (fun x hx => ?_)
        · have h3 := sub_le (j :: grd s s.size []) (List.range s.size) (List.nodup_cons.2 ⟨hn, Vl_nodup g1⟩) (fun x hx => by
            rcases List.mem_cons.1 hx with rfl | hx
            · exact List.mem_range.2 hj
            · exact List.mem_range.2 (g2 x hx))
          simp only [List.length_cons, List.length_range] at h3
          omega
        · have h3 := sub_le (j :: grd s s.size []) (List.range s.size) (List.nodup_cons.2 ⟨hn, Vl_nodup g1⟩) (fun x hx => by
            rcases List.mem_cons.1 hx with rfl | hx
            · exact List.mem_range.2 hj
            · exact List.mem_range.2 (g2 x hx))
          simp only [List.length_cons, List.length_range] at h3
          omega
    have := path_VV _ _ rfl g1 g2
    rwa [hb] at this

theorem within_ (a b c : Int) : impl_within.f a b c = some (decide (b ≤ a ∧ a ≤ c)) := by
  unfold impl_within.f
  by_cases h : a ≥ b
  · rw [if_pos h]; simp [show b ≤ a from h]
  · rw [if_neg h]; simp [show ¬ b ≤ a from h]

/-- A valid order: each gore once. -/
def okO (l : List Int) : Bool := decide (2 ≤ l.length ∧ l.length ≤ 12 ∧ (∀ x ∈ l, 0 ≤ x ∧ x < l.length) ∧ l.Nodup)
theorem okO_iff (l : List Int) : okO l = true ↔ (2 ≤ l.length ∧ l.length ≤ 12 ∧ (∀ x ∈ l, 0 ≤ x ∧ x < l.length) ∧ l.Nodup) := by
  unfold okO; exact decide_eq_true_iff
theorem nodup_rd (l : List Int) : l.Nodup ↔ ∀ j : Nat, j < l.length → rd l (j : Int) ∉ l.take j := by
  rw [List.nodup_iff_pairwise_ne, List.pairwise_iff_getElem]
  constructor
  · intro h j hj hm
    obtain ⟨i, hi, he⟩ := List.mem_take_iff_getElem.1 hm
    rw [rd_get l j hj] at he
    exact h i j (by omega) hj (by omega) he
  · intro h i j hi hj hij e
    refine h j hj (List.mem_take_iff_getElem.2 ⟨i, by omega, ?_⟩)
    rw [rd_get l j hj]; exact e
theorem specOrd_l (l : List Int) (hl : l.length ≤ 12) : ∀ (d : Nat) (i : Nat), l.length - i = d → i ≤ l.length → ∀ r : Bool, (r = true ↔ ∀ j : Nat, i ≤ j → j < l.length → 0 ≤ rd l (j : Int) ∧ rd l (j : Int) < l.length ∧ rd l (j : Int) ∉ l.take j) → Ev (fun k => spec_l18Ok.l0 k l (l.length : Int) (i : Int)) r := by
  intro d
  induction d with
  | zero =>
    intro i hd hi r hr
    have : r = true := hr.2 (fun j h1 h2 => by omega)
    subst this
    refine Ev.now (fun k => ?_)
    simp only [spec_l18Ok.l0]
    rw [if_neg (by omega)]
  | succ d ih =>
    intro i hd hi r hr
    have e : ∀ k, spec_l18Ok.l0 (k + 1) l (l.length : Int) (i : Int) = if 0 ≤ rd l (i : Int) ∧ rd l (i : Int) ≤ (l.length : Int) - 1 then (spec_l00Has.f k (l.take i) (rd l (i : Int))).bind fun t => if t = true then some false else spec_l18Ok.l0 k l (l.length : Int) ((i + 1 : Nat) : Int) else some false := by
      intro k
      simp only [spec_l18Ok.l0]
      rw [if_pos (by omega), if_pos (by omega), In_, w64 (n := (l.length : Int) - 1) (by omega) (by omega)]
      simp only [Option.bind_some, decide_eq_true_eq]
      by_cases q : 0 ≤ rd l (i : Int) ∧ rd l (i : Int) ≤ (l.length : Int) - 1
      · rw [if_pos q, if_pos q, if_pos (by omega), w64 (n := (i : Int) + 1) (by omega) (by omega), Int.toNat_natCast]; rfl
      · rw [if_neg q, if_neg q]
    by_cases q : 0 ≤ rd l (i : Int) ∧ rd l (i : Int) ≤ (l.length : Int) - 1
    · refine Ev.step (fun k => by rw [e, if_pos q]) (Ev.bind (Has_ (l.take i) (rd l (i : Int)) (by rw [List.length_take]; omega)) ?_)
      by_cases z : rd l (i : Int) ∈ l.take i
      · have : r = false := by
          cases r with
          | false => rfl
          | true => exact absurd z (hr.1 rfl i (Nat.le_refl _) (by omega)).2.2
        subst this
        exact ⟨0, fun k _ => by rw [decide_eq_true z]; rfl⟩
      · refine Ev.eq (fun k => by rw [decide_eq_false z]; exact if_neg (by simp)) (ih (i + 1) (by omega) (by omega) r (hr.trans ⟨fun h j h1 h2 => h j (by omega) h2, fun h j h1 h2 => ?_⟩))
        by_cases g : j = i
        · subst g; exact ⟨q.1, by omega, z⟩
        · exact h j (by omega) h2
    · have : r = false := by
        cases r with
        | false => rfl
        | true => have := hr.1 rfl i (Nat.le_refl _) (by omega); exact absurd ⟨this.1, by omega⟩ q
      subst this
      exact Ev.now (fun k => by rw [e, if_neg q])
theorem okO_rd (l : List Int) (h1 : 2 ≤ l.length) (h2 : l.length ≤ 12) : okO l = true ↔ ∀ j : Nat, 0 ≤ j → j < l.length → 0 ≤ rd l (j : Int) ∧ rd l (j : Int) < l.length ∧ rd l (j : Int) ∉ l.take j := by
  rw [okO_iff, nodup_rd]
  constructor
  · rintro ⟨_, _, h3, h4⟩ j _ hj
    have := h3 (rd l (j : Int)) (by rw [rd_get l j hj]; exact List.getElem_mem _)
    exact ⟨this.1, this.2, h4 j hj⟩
  · intro h
    refine ⟨h1, h2, fun x hx => ?_, fun j hj => (h j (by omega) hj).2.2⟩
    obtain ⟨j, hj, he⟩ := List.getElem_of_mem hx
    have := h j (by omega) hj
    rw [rd_get l j hj, he] at this
    exact ⟨this.1, this.2.1⟩
theorem SpecOrd_ (l : List Int) : Ev (fun k => spec_l18Ok.f k l) (okO l) := by
  by_cases c : 2 ≤ l.length ∧ l.length ≤ 12
  · refine Ev.eq (h := fun k => spec_l18Ok.l0 k l (l.length : Int) ((0 : Nat) : Int)) (fun k => ?_) (specOrd_l l c.2 l.length 0 rfl (by omega) _ (okO_rd l c.1 c.2))
    unfold spec_l18Ok.f
    rw [In_]; simp only [Option.bind_some, decide_eq_true_eq]
    rw [if_pos (by omega)]; rfl
  · have : okO l = false := by
      cases h : okO l with
      | false => rfl
      | true => exact absurd ⟨((okO_iff l).1 h).1, ((okO_iff l).1 h).2.1⟩ c
    rw [this]
    refine ⟨0, fun k _ => ?_⟩
    show spec_l18Ok.f k l = some false
    unfold spec_l18Ok.f
    rw [In_]; simp only [Option.bind_some, decide_eq_true_eq]
    rw [if_neg (by omega)]

theorem arr_rd (S : List Int) (j : Nat) : S.toArray[j]! = rd S (j : Int) := by
  unfold rd; simp [List.getElem!_eq_getElem?_getD, List.getD_eq_getElem?_getD]
theorem keeps_rd (S : List Int) (j : Nat) : Lib.keeps S.toArray j = true ↔ (j = 0 ∨ rd S (j : Int) ≠ rd S ((j - 1 : Nat) : Int)) := by
  unfold Lib.keeps
  rw [arr_rd, arr_rd]; exact decide_eq_true_iff
/-- The sorted list. -/
def srt (l : List Int) : List Int := l.mergeSort fun x y => decide (x ≤ y)
theorem srt_perm (l : List Int) : (srt l).Perm l := List.mergeSort_perm _ _
theorem srt_len (l : List Int) : (srt l).length = l.length := (srt_perm l).length_eq
theorem srt_le (l : List Int) (i j : Nat) (hij : i < j) (hj : j < l.length) : rd (srt l) (i : Int) ≤ rd (srt l) (j : Int) := by
  have h := List.pairwise_mergeSort (le := fun (x y : Int) => decide (x ≤ y)) (fun a b c h1 h2 => by simp at *; omega) (fun a b => by simp; omega) l
  have h := List.pairwise_iff_getElem.1 h
  have hl := srt_len l
  rw [rd_get _ i (by omega), rd_get _ j (by omega)]
  have := h i j (by show i < (srt l).length; omega) (by show j < (srt l).length; omega) hij
  exact of_decide_eq_true this
theorem asc_full (l : List Int) (h : (ascL l).length = l.length) : ascL l = srt l ∧ ∀ j, j < l.length → Lib.keeps (srt l).toArray j = true := by
  have hk : ∀ j, j < l.length → Lib.keeps (srt l).toArray j = true := by
    have h2 : ((List.range l.length).filter (Lib.keeps (srt l).toArray)).length = (List.range l.length).length := by
      rw [List.length_range]
      refine Eq.trans ?_ h
      show _ = (((List.range l.length).filter (Lib.keeps (srt l).toArray)).map _).length
      rw [List.length_map]
    intro j hj
    exact List.length_filter_eq_length_iff.1 h2 j (List.mem_range.2 hj)
  refine ⟨?_, hk⟩
  have h3 := Lib.compactUpTo_all (srt l).toArray l.length hk
  have h4 := Lib.range_map_get (srt l).toArray
  rw [show (srt l).toArray.size = l.length from by simpa using srt_len l] at h4
  show Lib.compactUpTo (srt l).toArray l.length = _
  rw [h3, h4]
theorem asc_nodup (l : List Int) (h : l.Nodup) : (ascL l).length = l.length := by
  have hn : (srt l).Nodup := (srt_perm l).nodup_iff.2 h
  have hk : ∀ j, j < l.length → Lib.keeps (srt l).toArray j = true := by
    intro j hj
    rw [keeps_rd]
    by_cases c : j = 0
    · exact .inl c
    · refine .inr (fun e => ?_)
      have hl := srt_len l
      rw [rd_get _ j (by omega), rd_get _ (j - 1) (by omega)] at e
      exact List.pairwise_iff_getElem.1 (List.nodup_iff_pairwise_ne.1 hn) (j - 1) j (by omega) (by omega) (by omega) e.symm
  show (Lib.compactUpTo (srt l).toArray l.length).length = l.length
  rw [Lib.compactUpTo_all _ _ hk, List.length_map, List.length_range]
theorem rising_l (C : List Int) (m : Int) (m0 : 0 ≤ m) (m1 : m ≤ 12) (hC : C.length ≤ 12) : ∀ (d : Nat) (i : Nat), C.length - i = d → i ≤ C.length → ∀ r : Bool, (r = true ↔ ∀ j : Nat, i ≤ j → j < C.length → 0 ≤ rd C (j : Int) ∧ rd C (j : Int) < m ∧ (0 < j → rd C ((j - 1 : Nat) : Int) < rd C (j : Int))) → Ev (fun k => impl_rising.l0 k C m C (C.length : Int) (i : Int)) r := by
  intro d
  induction d with
  | zero =>
    intro i hd hi r hr
    have : r = true := hr.2 (fun j h1 h2 => by omega)
    subst this
    refine Ev.now (fun k => ?_)
    simp only [impl_rising.l0]
    rw [if_neg (by omega)]
  | succ d ih =>
    intro i hd hi r hr
    have e : ∀ k, impl_rising.l0 (k + 1) C m C (C.length : Int) (i : Int) = if 0 ≤ rd C (i : Int) ∧ rd C (i : Int) ≤ m - 1 then (if 0 < i ∧ rd C ((i - 1 : Nat) : Int) ≥ rd C (i : Int) then some false else impl_rising.l0 k C m C (C.length : Int) ((i + 1 : Nat) : Int)) else some false := by
      intro k
      simp only [impl_rising.l0]
      rw [if_pos (by omega), if_pos (by omega), if_pos (by omega), within_, w64 (n := m - 1) (by omega) (by omega), w64 (n := (i : Int) + 1) (by omega) (by omega), w64 (n := (i : Int) - 1) (by omega) (by omega)]
      simp only [Option.bind_some, decide_eq_true_eq]
      by_cases q : 0 ≤ rd C (i : Int) ∧ rd C (i : Int) ≤ m - 1
      · rw [if_pos q, if_pos q]
        by_cases z : 0 < i
        · rw [if_pos (by omega), if_pos (by omega), if_pos (by omega), show ((i : Int) - 1) = ((i - 1 : Nat) : Int) by omega]
          by_cases g : rd C ((i - 1 : Nat) : Int) ≥ rd C (i : Int)
          · rw [if_pos g, if_pos ⟨z, g⟩]
          · rw [if_neg g, if_neg (fun h => g h.2)]; rfl
        · rw [if_neg (by omega), if_neg (fun h => z h.1)]; rfl
      · rw [if_neg q, if_neg q]
    have no : (¬ (0 ≤ rd C (i : Int) ∧ rd C (i : Int) < m ∧ (0 < i → rd C ((i - 1 : Nat) : Int) < rd C (i : Int)))) → r = false := by
      intro h
      cases r with
      | false => rfl
      | true => exact absurd (hr.1 rfl i (Nat.le_refl _) (by omega)) h
    by_cases q : 0 ≤ rd C (i : Int) ∧ rd C (i : Int) ≤ m - 1
    · by_cases z : 0 < i ∧ rd C ((i - 1 : Nat) : Int) ≥ rd C (i : Int)
      · have := no (fun h => by have := h.2.2 z.1; omega)
        subst this
        exact Ev.now (fun k => by rw [e, if_pos q, if_pos z])
      · refine Ev.step (fun k => by rw [e, if_pos q, if_neg z]) (ih (i + 1) (by omega) (by omega) r (hr.trans ⟨fun h j h1 h2 => h j (by omega) h2, fun h j h1 h2 => ?_⟩))
        by_cases g : j = i
        · subst g; exact ⟨q.1, by omega, fun h0 => by omega⟩
        · exact h j (by omega) h2
    · have := no (fun h => q ⟨h.1, by omega⟩)
      subst this
      exact Ev.now (fun k => by rw [e, if_neg q])
theorem lt_all (C : List Int) (h : ∀ j : Nat, j < C.length → 0 < j → rd C ((j - 1 : Nat) : Int) < rd C (j : Int)) : ∀ (d i : Nat), i + d + 1 < C.length → rd C (i : Int) < rd C ((i + d + 1 : Nat) : Int) := by
  intro d
  induction d with
  | zero => intro i hi; have := h (i + 1) (by omega) (by omega); simpa using this
  | succ d ih =>
    intro i hi
    have h1 := ih i (by omega)
    have h2 := h (i + (d + 1) + 1) (by omega) (by omega)
    rw [show i + (d + 1) + 1 - 1 = i + d + 1 by omega] at h2
    omega
theorem ImplOrd_ (l : List Int) (hl : l.length ≤ 1048576) : Ev (fun k => impl_ValidOrder.f k l) (okO l) := by
  have ha : impl_ascending.f l = some (ascL l) := by unfold impl_ascending.f; rw [if_pos (by omega)]
  have no : okO l = false → (∀ k, impl_ValidOrder.f k l = some false) → Ev (fun k => impl_ValidOrder.f k l) (okO l) := fun h1 h2 => by rw [h1]; exact ⟨0, fun k _ => h2 k⟩
  have nk : (¬ (2 ≤ l.length ∧ l.length ≤ 12 ∧ l.Nodup)) → okO l = false := by
    intro h
    cases g : okO l with
    | false => rfl
    | true => have := (okO_iff l).1 g; exact absurd ⟨this.1, this.2.1, this.2.2.2⟩ h
  by_cases c1 : (l.length : Int) ≥ 2
  · by_cases c2 : (l.length : Int) ≤ 12
    · by_cases c3 : (ascL l).length = l.length
      · obtain ⟨hC, hk⟩ := asc_full l c3
        refine Ev.eq (h := fun k => impl_rising.l0 k (srt l) (l.length : Int) (srt l) ((srt l).length : Int) ((0 : Nat) : Int)) (fun k => ?_) (rising_l (srt l) (l.length : Int) (by omega) (by omega) (by rw [srt_len]; omega) (srt l).length 0 rfl (by omega) _ ?_)
        · unfold impl_ValidOrder.f
          rw [ha]; simp only [Option.bind_some]
          rw [if_pos c1, if_pos c2, if_pos (by omega), hC]
          show (impl_rising.f k (srt l) (l.length : Int)).bind (fun t => some t) = impl_rising.f k (srt l) (l.length : Int)
          cases impl_rising.f k (srt l) (l.length : Int) <;> rfl
        · have hlen := srt_len l
          rw [okO_iff]
          constructor
          · rintro ⟨_, _, h3, h4⟩ j _ hj
            have hm := h3 (rd (srt l) (j : Int)) ((srt_perm l).mem_iff.1 (by rw [rd_get _ j hj]; exact List.getElem_mem _))
            refine ⟨hm.1, hm.2, fun h0 => ?_⟩
            have h5 := srt_le l (j - 1) j (by omega) (by omega)
            have h6 := (keeps_rd (srt l) j).1 (hk j (by omega))
            omega
          · intro h
            refine ⟨by omega, by omega, fun x hx => ?_, ?_⟩
            · obtain ⟨j, hj, he⟩ := List.getElem_of_mem ((srt_perm l).mem_iff.2 hx)
              have := h j (by omega) hj
              rw [rd_get _ j hj, he] at this
              exact ⟨this.1, this.2.1⟩
            · refine (srt_perm l).nodup_iff.1 (List.nodup_iff_pairwise_ne.2 (List.pairwise_iff_getElem.2 (fun i j hi hj hij e => ?_)))
              have := lt_all (srt l) (fun j h1 h2 => (h j (by omega) h1).2.2 h2) (j - i - 1) i (by omega)
              rw [show i + (j - i - 1) + 1 = j by omega, rd_get _ i hi, rd_get _ j hj] at this
              omega
      · refine no (nk (fun h => c3 (asc_nodup l h.2.2))) (fun k => ?_)
        unfold impl_ValidOrder.f
        rw [ha]; simp only [Option.bind_some]
        rw [if_pos c1, if_pos c2, if_neg (by omega)]
    · refine no (nk (fun h => by omega)) (fun k => ?_)
      unfold impl_ValidOrder.f
      rw [ha]; simp only [Option.bind_some]
      rw [if_pos c1, if_neg c2]
  · refine no (nk (fun h => by omega)) (fun k => ?_)
    unfold impl_ValidOrder.f
    rw [ha]; simp only [Option.bind_some]
    rw [if_neg c1]

theorem rd_set_s (l : List Int) (i : Int) (v : Int) (h0 : 0 ≤ i) (h : i < l.length) : rd (l.set i.toNat v) i = v := by
  unfold rd; simp [List.getD_eq_getElem?_getD, List.getElem?_set, show i.toNat < l.length by omega]
theorem rd_set_o (l : List Int) (i j : Int) (v : Int) (h0 : 0 ≤ i) (h1 : 0 ≤ j) (h : i ≠ j) : rd (l.set i.toNat v) j = rd l j := by
  unfold rd; simp [List.getD_eq_getElem?_getD, List.getElem?_set, show ¬ i.toNat = j.toNat by omega]
theorem up_all (C : List Int) (h : ∀ j : Nat, j < C.length → 0 < j → rd C ((j - 1 : Nat) : Int) < rd C (j : Int)) : ∀ (d i : Nat), i + d < C.length → rd C (i : Int) + d ≤ rd C ((i + d : Nat) : Int) := by
  intro d
  induction d with
  | zero => intro i hi; simp
  | succ d ih =>
    intro i hi
    have h1 := ih i (by omega)
    have h2 := h (i + (d + 1)) (by omega) (by omega)
    rw [show i + (d + 1) - 1 = i + d by omega] at h2
    omega
theorem rd_in' (l : List Int) (j : Nat) (h : j < l.length) : rd l (j : Int) ∈ l := by rw [rd_get l j h]; exact List.getElem_mem _
theorem all_in {l : List Int} (h : okO l = true) (x : Int) (x0 : 0 ≤ x) (x1 : x < l.length) : x ∈ l := by
  obtain ⟨h1, h2, h3, h4⟩ := (okO_iff l).1 h
  have hl := srt_len l
  have hn : (srt l).Nodup := (srt_perm l).nodup_iff.2 h4
  have hup := up_all (srt l) (fun j hj h0 => by
    have a := srt_le l (j - 1) j (by omega) (by omega)
    have b := List.pairwise_iff_getElem.1 (List.nodup_iff_pairwise_ne.1 hn) (j - 1) j (by omega) hj (by omega)
    rw [rd_get _ j hj, rd_get _ (j - 1) (by omega)] at a ⊢
    omega)
  have hr : ∀ j : Nat, j < l.length → 0 ≤ rd (srt l) (j : Int) ∧ rd (srt l) (j : Int) < l.length := fun j hj => h3 _ ((srt_perm l).mem_iff.1 (rd_in' _ j (by omega)))
  have a := hup x.toNat 0 (by omega)
  have b := hup (l.length - 1 - x.toNat) x.toNat (by omega)
  rw [show 0 + x.toNat = x.toNat by omega] at a
  rw [show x.toNat + (l.length - 1 - x.toNat) = l.length - 1 by omega] at b
  have c := hr 0 (by omega)
  have d := hr (l.length - 1) (by omega)
  have e : rd (srt l) ((x.toNat : Nat) : Int) = x := by omega
  have := rd_in' (srt l) x.toNat (by omega)
  rw [e] at this
  exact (srt_perm l).mem_iff.1 this
theorem rd_inj {l : List Int} (h : l.Nodup) (i j : Nat) (hi : i < l.length) (hj : j < l.length) (e : rd l (i : Int) = rd l (j : Int)) : i = j := by
  have hp := List.pairwise_iff_getElem.1 (List.nodup_iff_pairwise_ne.1 h)
  rw [rd_get l i hi, rd_get l j hj] at e
  rcases Nat.lt_trichotomy i j with g | g | g
  · exact absurd e (hp i j hi hj g)
  · exact g
  · exact absurd e.symm (hp j i hj hi g)
/-- Where a gore stands in an order. -/
def pos (l : List Int) (x : Int) : Nat := l.idxOf x
theorem pos_says {l : List Int} (h : okO l = true) (x : Int) (x0 : 0 ≤ x) (x1 : x < l.length) : pos l x < l.length ∧ rd l (pos l x : Int) = x := by
  have hm := all_in h x x0 x1
  have hlt : pos l x < l.length := List.idxOf_lt_length_iff.2 hm
  exact ⟨hlt, by rw [rd_get l _ hlt]; exact List.getElem_idxOf hlt⟩
theorem rd_ok {l : List Int} (h : okO l = true) (j : Nat) (hj : j < l.length) : 0 ≤ rd l (j : Int) ∧ rd l (j : Int) < l.length := ((okO_iff l).1 h).2.2.1 _ (rd_in' l j hj)
theorem pos_rd {l : List Int} (h : okO l = true) (i : Nat) (hi : i < l.length) : pos l (rd l (i : Int)) = i := by
  have hr := rd_ok h i hi
  obtain ⟨h1, h2⟩ := pos_says h _ hr.1 hr.2
  exact rd_inj ((okO_iff l).1 h).2.2.2 _ _ h1 hi h2

theorem tmod_in (k n : Int) (h0 : 0 ≤ k) (h1 : 0 < n) : 0 ≤ Int.tmod k n ∧ Int.tmod k n < n := ⟨Int.tmod_nonneg _ h0, Int.tmod_lt_of_pos _ h1⟩

theorem index_l {l : List Int} (h : okO l = true) (x : Int) (x0 : 0 ≤ x) (x1 : x < l.length) : ∀ (d i : Nat), pos l x - i = d → i ≤ pos l x → Ev (fun k => slices_Index_int64_int64.l0 k l x (l.length : Int) (i : Int)) (pos l x : Int) := by
  obtain ⟨p1, p2⟩ := pos_says h x x0 x1
  have hn := (okO_iff l).1 h
  intro d
  induction d with
  | zero =>
    intro i hd hi
    obtain rfl : i = pos l x := by omega
    refine Ev.now (fun k => ?_)
    simp only [slices_Index_int64_int64.l0]
    rw [if_pos (by omega), if_pos (by omega), if_pos (by omega), if_pos p2.symm]
  | succ d ih =>
    intro i hd hi
    have hne : ¬ x = rd l (i : Int) := fun e => by
      have := rd_inj hn.2.2.2 (pos l x) i p1 (by omega) (by rw [p2]; exact e)
      omega
    refine Ev.step (h := fun k => slices_Index_int64_int64.l0 k l x (l.length : Int) ((i + 1 : Nat) : Int)) (fun k => ?_) (ih (i + 1) (by omega) (by omega))
    simp only [slices_Index_int64_int64.l0]
    rw [if_pos (by omega), if_pos (by omega), if_pos (by omega), if_neg hne, w64 (n := (i : Int) + 1) (by omega) (by omega)]; rfl
theorem Index_ {l : List Int} (h : okO l = true) (x : Int) (x0 : 0 ≤ x) (x1 : x < l.length) : Ev (fun k => slices_Index_int64_int64.f k l x) (pos l x : Int) :=
  index_l h x x0 x1 (pos l x) 0 (by omega) (by omega)
theorem places_l {l : List Int} (h : okO l = true) : ∀ (d i : Nat) (a : List Int), l.length - i = d → i ≤ l.length → a.length = l.length → (∀ j : Nat, j < i → rd a (rd l (j : Int)) = j) → EvP (fun k => spec_l18Places.l0 k l a (i : Int)) (fun a => a.length = l.length ∧ ∀ j : Nat, j < l.length → rd a (rd l (j : Int)) = j) := by
  have hn := (okO_iff l).1 h
  intro d
  induction d with
  | zero =>
    intro i a hd hi ha hr
    refine ⟨a, ⟨ha, fun j hj => hr j (by omega)⟩, Ev.now (fun k => ?_)⟩
    simp only [spec_l18Places.l0]
    rw [if_neg (by omega)]
  | succ d ih =>
    intro i a hd hi ha hr
    have hx := rd_ok h i (by omega)
    refine EvP.step (h := fun k => spec_l18Places.l0 k l (a.set (rd l (i : Int)).toNat (i : Int)) ((i + 1 : Nat) : Int)) (fun k => ?_) (ih (i + 1) _ (by omega) (by omega) (by simpa using ha) (fun j hj => ?_))
    · simp only [spec_l18Places.l0]
      rw [if_pos (by omega), if_pos (by omega), if_pos hx.1, if_pos (by omega), w64 (n := (i : Int) + 1) (by omega) (by omega)]; rfl
    · by_cases e : j = i
      · subst e; exact rd_set_s _ _ _ hx.1 (by omega)
      · have hy := rd_ok h j (by omega)
        rw [rd_set_o _ _ _ _ hx.1 hy.1 (fun g => e (rd_inj hn.2.2.2 _ _ (by omega) (by omega) g.symm))]
        exact hr j (by omega)
theorem Places_ {l : List Int} (h : okO l = true) : EvP (fun k => spec_l18Places.f k l) (fun a => a.length = l.length ∧ ∀ x : Int, 0 ≤ x → x < l.length → rd a x = pos l x) := by
  have hn := (okO_iff l).1 h
  obtain ⟨a, ⟨h1, h2⟩, h3⟩ := places_l h l.length 0 (List.replicate l.length 0) rfl (by omega) (by simp) (fun j hj => by omega)
  refine ⟨a, ⟨h1, fun x x0 x1 => ?_⟩, Ev.eq (fun k => ?_) h3⟩
  · obtain ⟨p1, p2⟩ := pos_says h x x0 x1
    have := h2 (pos l x) p1
    rw [p2] at this; exact this
  · unfold spec_l18Places.f
    rw [if_pos (by omega), if_pos (by rw [Int.toNat_natCast]; omega), Int.toNat_natCast]; rfl
theorem str_append' (a b : List Int) : strOfNums (a ++ b) = strOfNums a ++ strOfNums b := by
  apply ByteArray.ext
  simp [strOfNums]
/-- The seams from one on. -/
def upT (l : List Int) : Nat → Int → List Int
  | 0, _ => []
  | d + 1, k => (if (pos l (Int.tmod (k + 1) l.length) : Int) > (pos l k : Int) then 62 else 60) :: upT l d (k + 1)
theorem specUpper_l {l : List Int} (h : okO l = true) (a : List Int) (ha : a.length = l.length) (hr : ∀ x : Int, 0 ≤ x → x < l.length → rd a x = pos l x) : ∀ (d i : Nat) (t : List Int), l.length - i = d → i ≤ l.length → t.length = i → Ev (fun k => spec_l18Upper.l0 k a (strOfNums t) (i : Int)) (strOfNums (t ++ upT l d (i : Int))) := by
  have hn := (okO_iff l).1 h
  intro d
  induction d with
  | zero =>
    intro i t hd hi ht
    refine Ev.now (fun k => ?_)
    simp only [spec_l18Upper.l0]
    rw [if_neg (by omega)]; simp [upT]
  | succ d ih =>
    intro i t hd hi ht
    have hm := tmod_in ((i : Int) + 1) (l.length : Int) (by omega) (by omega)
    have e : ∀ k, spec_l18Upper.l0 (k + 1) a (strOfNums t) (i : Int) = spec_l18Upper.l0 k a (strOfNums (t ++ [if (pos l (Int.tmod ((i : Int) + 1) l.length) : Int) > (pos l (i : Int) : Int) then 62 else 60])) ((i + 1 : Nat) : Int) := by
      intro k
      simp only [spec_l18Upper.l0]
      rw [ha, w64 (n := (i : Int) + 1) (by omega) (by omega), if_pos (by omega), if_neg (by omega), if_pos hm.1, if_pos hm.2, if_pos (by omega), hr _ hm.1 hm.2, hr _ (by omega) (by omega), strOfNums_size, str_append']
      by_cases c : (pos l (Int.tmod ((i : Int) + 1) l.length) : Int) > (pos l (i : Int) : Int)
      · rw [if_pos c, if_pos c, if_pos (by omega)]; rfl
      · rw [if_neg c, if_neg c, if_pos (by omega)]; rfl
    refine Ev.step e ?_
    have := ih (i + 1) (t ++ [if (pos l (Int.tmod ((i : Int) + 1) l.length) : Int) > (pos l (i : Int) : Int) then 62 else 60]) (by omega) (by omega) (by simp; omega)
    rw [List.append_assoc] at this
    exact this
theorem SpecUpper_ {l : List Int} (h : okO l = true) : Ev (fun k => spec_l18Upper.f k l) (strOfNums (upT l l.length 0)) := by
  obtain ⟨a, ⟨h1, h2⟩, h3⟩ := Places_ h
  have := specUpper_l h a h1 h2 l.length 0 [] rfl (by omega) rfl
  exact Ev.eq (h := fun k => (spec_l18Places.f k l).bind fun t => spec_l18Upper.l0 k t ⟨#[]⟩ 0) (fun k => rfl) (Ev.bind h3 this)
theorem implUpper_l {l : List Int} (h : okO l = true) : ∀ (d i : Nat) (t : List Int), l.length - i = d → i ≤ l.length → t.length = i → Ev (fun k => impl_upperAt.l0 k l t (l.length : Int) (l.length : Int) (i : Int)) (strOfNums (t ++ upT l d (i : Int))) := by
  have hn := (okO_iff l).1 h
  intro d
  induction d with
  | zero =>
    intro i t hd hi ht
    refine Ev.now (fun k => ?_)
    simp only [impl_upperAt.l0]
    rw [if_neg (by omega)]; simp [upT]
  | succ d ih =>
    intro i t hd hi ht
    have hm := tmod_in ((i : Int) + 1) (l.length : Int) (by omega) (by omega)
    refine Ev.step (h := fun k => (slices_Index_int64_int64.f k l (Int.tmod ((i : Int) + 1) (l.length : Int))).bind fun t138 => (slices_Index_int64_int64.f k l (i : Int)).bind fun t139 => impl_upperAt.l0 k l (t ++ [if t138 > t139 then 62 else 60]) (l.length : Int) (l.length : Int) ((i + 1 : Nat) : Int)) (fun k => ?_) (Ev.bind (Index_ h _ hm.1 hm.2) (Ev.bind (Index_ h (i : Int) (by omega) (by omega)) ?_))
    · simp only [impl_upperAt.l0]
      rw [if_pos (by omega), if_neg (by omega), w64 (n := (i : Int) + 1) (by omega) (by omega)]
      congr 1; funext t138; congr 1; funext t139
      by_cases c : t138 > t139
      · rw [if_pos c, if_pos c, if_pos (by omega)]; rfl
      · rw [if_neg c, if_neg c, if_pos (by omega)]; rfl
    · have := ih (i + 1) (t ++ [if (pos l (Int.tmod ((i : Int) + 1) l.length) : Int) > (pos l (i : Int) : Int) then 62 else 60]) (by omega) (by omega) (by simp; omega)
      rw [List.append_assoc] at this
      exact this
theorem ImplUpper_ {l : List Int} (h : okO l = true) : Ev (fun k => impl_upperAt.f k l) (strOfNums (upT l l.length 0)) :=
  implUpper_l h l.length 0 [] rfl (by omega) rfl

theorem bt_str (xs : List Int) (j : Int) (j0 : 0 ≤ j) (j1 : j < xs.length) (h0 : 0 ≤ rd xs j) (h1 : rd xs j < 256) : bt (strOfNums xs) j = rd xs j := by
  have hs : j.toNat < (strOfNums xs).size := by rw [strOfNums_size]; omega
  have hr : rd xs j = xs[j.toNat]'(by omega) := by
    unfold rd; rw [List.getD_eq_getElem?_getD, List.getElem?_eq_getElem (by omega)]; rfl
  rw [← bt_at _ _ hs]
  have e : (strOfNums xs)[j.toNat]'hs = UInt8.ofNat (rd xs j).toNat := by
    rw [hr]
    show (strOfNums xs).data[j.toNat]'hs = _
    simp [strOfNums]
  rw [e, UInt8.toNat_ofNat']
  omega

theorem bef_nxt (n g : Nat) (hn : 1 ≤ n) (hg : g < n) : bef n (nxt n g) = g := by
  unfold bef nxt
  by_cases c : g + 1 < n
  · rw [Nat.mod_eq_of_lt c, show g + 1 + n - 1 = g + n by omega, Nat.add_mod_right, Nat.mod_eq_of_lt hg]
  · have e : g + 1 = n := by omega
    rw [e, Nat.mod_self, show 0 + n - 1 = n - 1 by omega, Nat.mod_eq_of_lt (by omega)]; omega
theorem nxt_bef (n g : Nat) (hn : 1 ≤ n) (hg : g < n) : nxt n (bef n g) = g := by
  unfold bef nxt
  by_cases c : g = 0
  · subst c
    rw [show 0 + n - 1 = n - 1 by omega, Nat.mod_eq_of_lt (show n - 1 < n by omega), show n - 1 + 1 = n by omega, Nat.mod_self]
  · rw [show g + n - 1 = (g - 1) + n by omega, Nat.add_mod_right, Nat.mod_eq_of_lt (show g - 1 < n by omega), show g - 1 + 1 = g by omega, Nat.mod_eq_of_lt hg]
theorem nxt_ne (n g : Nat) (hn : 2 ≤ n) (hg : g < n) : nxt n g ≠ g := by
  unfold nxt
  by_cases c : g + 1 < n
  · rw [Nat.mod_eq_of_lt c]; omega
  · rw [show g + 1 = n by omega, Nat.mod_self]; omega
theorem upT_len (l : List Int) : ∀ (d : Nat) (k : Int), (upT l d k).length = d
  | 0, _ => rfl
  | d + 1, k => by unfold upT; rw [List.length_cons, upT_len l d]
theorem upT_rd (l : List Int) : ∀ (d : Nat) (k : Int) (i : Nat), i < d → rd (upT l d k) (i : Int) = if (pos l (Int.tmod (k + i + 1) l.length) : Int) > (pos l (k + i) : Int) then 62 else 60
  | 0, _, _, h => by omega
  | d + 1, k, 0, _ => by
    unfold upT rd
    simp
  | d + 1, k, i + 1, h => by
    have ih := upT_rd l d (k + 1) i (by omega)
    have e : rd (upT l (d + 1) k) ((i + 1 : Nat) : Int) = rd (upT l d (k + 1)) (i : Int) := by
      rw [show upT l (d + 1) k = (if (pos l (Int.tmod (k + 1) l.length) : Int) > (pos l k : Int) then 62 else 60) :: upT l d (k + 1) from rfl]
      unfold rd
      rw [Int.toNat_natCast, Int.toNat_natCast, List.getD_cons_succ]
    rw [e, ih]
    rw [show k + 1 + (i : Int) = k + ((i + 1 : Nat) : Int) by omega]
/-- The seams of an order. -/
def upS (l : List Int) : ByteArray := strOfNums (upT l l.length 0)
theorem upS_size (l : List Int) : (upS l).size = l.length := by unfold upS; rw [strOfNums_size, upT_len]
theorem upS_bt (l : List Int) (i : Nat) (hi : i < l.length) : bt (upS l) (i : Int) = if pos l ((nxt l.length i : Nat) : Int) > pos l (i : Int) then 62 else 60 := by
  have h := upT_rd l l.length 0 i hi
  have e : Int.tmod (0 + (i : Int) + 1) (l.length : Int) = ((nxt l.length i : Nat) : Int) := by
    rw [show (0 : Int) + (i : Int) + 1 = ((i + 1 : Nat) : Int) by omega, tmod_nat]; rfl
  rw [e, show (0 : Int) + (i : Int) = (i : Int) by omega] at h
  have h2 : rd (upT l l.length 0) (i : Int) = if pos l ((nxt l.length i : Nat) : Int) > pos l (i : Int) then 62 else 60 := by
    rw [h]
    by_cases c : pos l ((nxt l.length i : Nat) : Int) > pos l (i : Int)
    · rw [if_pos c, if_pos (by omega)]
    · rw [if_neg c, if_neg (by omega)]
  unfold upS
  rw [bt_str _ _ (by omega) (by rw [upT_len]; omega) (by rw [h2]; split <;> omega) (by rw [h2]; split <;> omega), h2]
theorem wanB_mk {s : ByteArray} (h1 : 2 ≤ s.size) (h2 : s.size ≤ 12) (h : ∀ i : Int, 0 ≤ i → i < s.size → bt s i = 60 ∨ bt s i = 62) : wanB s = true := by
  unfold wanB
  rw [decide_eq_true ⟨h1, h2⟩, Bool.true_and, all_bytes]
  intro i i0 i1
  unfold seamB
  rcases h i i0 i1 with e | e <;> simp [e]
theorem upS_wan {l : List Int} (h : okO l = true) : wanB (upS l) = true := by
  obtain ⟨h1, h2, h3, h4⟩ := (okO_iff l).1 h
  refine wanB_mk (by rw [upS_size]; omega) (by rw [upS_size]; omega) (fun i i0 i1 => ?_)
  rw [upS_size] at i1
  obtain ⟨n, rfl⟩ : ∃ n : Nat, i = (n : Int) := ⟨i.toNat, by omega⟩
  rw [upS_bt l n (by omega)]; split
  · exact .inr rfl
  · exact .inl rfl
/-- An order is a way to paste for its own seams. -/
theorem ord_path {l : List Int} (h : okO l = true) : ∃ q : List Nat, castL q = l ∧ Vl (upS l) q ∧ q.length = (upS l).size ∧ ∀ g ∈ q, g < (upS l).size := by
  obtain ⟨h1, h2, h3, h4⟩ := (okO_iff l).1 h
  have hc : castL (l.map Int.toNat) = l := by
    unfold castL
    rw [List.map_map]
    calc l.map _ = l.map id := List.map_congr_left (fun x hx => by have := h3 x hx; show ((x.toNat : Nat) : Int) = x; omega)
      _ = l := List.map_id l
  refine ⟨l.map Int.toNat, hc, ?_, by rw [upS_size]; simp, fun g hg => ?_⟩
  · intro i hi
    have hil : i < l.length := by simpa using hi
    have hg : (l.map Int.toNat)[i] = (rd l (i : Int)).toNat := by rw [List.getElem_map, rd_get l i hil]
    have hr := rd_ok h i hil
    rw [hg]
    obtain ⟨g, hgg⟩ : ∃ g : Nat, (g : Int) = rd l (i : Int) := ⟨(rd l (i : Int)).toNat, by omega⟩
    have hgn : (rd l (i : Int)).toNat = g := by omega
    rw [hgn]
    have hpg : pos l (g : Int) = i := by rw [hgg]; exact pos_rd h i hil
    have hin : ∀ x : Nat, x < l.length → (inL ((l.map Int.toNat).take i) x = true ↔ pos l (x : Int) < i) := by
      intro x hx
      obtain ⟨p1, p2⟩ := pos_says h (x : Int) (by omega) (by omega)
      unfold inL
      rw [decide_eq_true_iff, List.mem_take_iff_getElem]
      constructor
      · rintro ⟨j, hj, e⟩
        have hjl : j < l.length := by simp at hj; omega
        rw [List.getElem_map, ← rd_get l j hjl] at e
        have hrj := rd_ok h j hjl
        have : pos l (rd l (j : Int)) = j := pos_rd h j hjl
        rw [show rd l (j : Int) = (x : Int) by omega] at this
        rw [this]; simp at hj; omega
      · intro hp
        refine ⟨pos l (x : Int), by simp; omega, ?_⟩
        rw [List.getElem_map, ← rd_get l _ p1, p2]; omega
    have hsz := upS_size l
    have hgl : g < l.length := by omega
    have hbl : bef l.length g < l.length := Nat.mod_lt _ (by omega)
    have hnl : nxt l.length g < l.length := Nat.mod_lt _ (by omega)
    unfold fol
    rw [hsz]
    have c0 : inL ((l.map Int.toNat).take i) g = false := by
      cases z : inL ((l.map Int.toNat).take i) g with
      | false => rfl
      | true => have := (hin g hgl).1 z; omega
    rw [c0]
    simp only [Bool.not_false, Bool.true_and, Bool.and_eq_true, Bool.or_eq_true, decide_eq_true_eq]
    constructor
    · by_cases c : pos l ((nxt l.length (bef l.length g) : Nat) : Int) > pos l (bef l.length g : Int)
      · right
        rw [nxt_bef _ _ (by omega) hgl, hpg] at c
        exact (hin _ hbl).2 c
      · left
        rw [upS_bt l _ hbl, if_neg c]
    · by_cases c : pos l ((nxt l.length g : Nat) : Int) > pos l (g : Int)
      · left
        rw [upS_bt l g hgl, if_pos c]; decide
      · right
        apply (hin _ hnl).2
        obtain ⟨p1, p2⟩ := pos_says h ((nxt l.length g : Nat) : Int) (by omega) (by omega)
        have hne : pos l ((nxt l.length g : Nat) : Int) ≠ i := by
          intro e
          rw [e, ← hgg] at p2
          have := nxt_ne l.length g h1 hgl
          omega
        omega
  · rw [upS_size]
    obtain ⟨x, hx, rfl⟩ := List.mem_map.1 hg
    have := h3 x hx
    omega
theorem castL_nodup {q : List Nat} (h : q.Nodup) : (castL q).Nodup := by
  unfold castL
  rw [List.nodup_iff_pairwise_ne, List.pairwise_map]
  exact (List.nodup_iff_pairwise_ne.1 h).imp (fun hne e => hne (by omega))
/-- An order that was found is an order, and its seams are the wanted ones. -/
theorem found_ord {s : ByteArray} (hw : wanB s = true) (hl : (grd s s.size []).length = s.size) : okO (castL (grd s s.size [])) = true ∧ (upS (castL (grd s s.size []))).toList = s.toList := by
  obtain ⟨w1, w2, w3⟩ := wanB_says hw
  obtain ⟨g1, g2⟩ := grd_Vl s s.size [] (Vl_nil s) (fun g hg => by cases hg)
  generalize grd s s.size [] = q at hl g1 g2
  have hcl := castL_len q
  have hok : okO (castL q) = true := by
    rw [okO_iff]
    refine ⟨by omega, by omega, fun x hx => ?_, castL_nodup (Vl_nodup g1)⟩
    unfold castL at hx
    obtain ⟨g, hg, rfl⟩ := List.mem_map.1 hx
    have := g2 g hg
    omega
  refine ⟨hok, ?_⟩
  have hrd : ∀ j : Nat, (h : j < q.length) → rd (castL q) (j : Int) = (q[j] : Int) := by
    intro j h
    rw [rd_get _ j (by omega)]
    unfold castL
    rw [List.getElem_map]
  have hin : ∀ (i x : Nat), x < s.size → (inL (q.take i) x = true ↔ pos (castL q) (x : Int) < i) := by
    intro i x hx
    obtain ⟨p1, p2⟩ := pos_says hok (x : Int) (by omega) (by omega)
    unfold inL
    rw [decide_eq_true_iff, List.mem_take_iff_getElem]
    constructor
    · rintro ⟨j, hj, e⟩
      have hjl : j < q.length := by omega
      have h1 := hrd j hjl
      rw [e] at h1
      have := pos_rd hok j (by omega)
      rw [h1] at this
      rw [this]; omega
    · intro hp
      have h1 := hrd (pos (castL q) (x : Int)) (by omega)
      rw [p2] at h1
      exact ⟨pos (castL q) (x : Int), by omega, by omega⟩
  have hval : ∀ g : Nat, g < s.size → fol s s.size (inL (q.take (pos (castL q) (g : Int)))) g = true := by
    intro g hg
    obtain ⟨p1, p2⟩ := pos_says hok (g : Int) (by omega) (by omega)
    have h1 := hrd (pos (castL q) (g : Int)) (by omega)
    rw [p2] at h1
    have := g1 (pos (castL q) (g : Int)) (by omega)
    rwa [show q[pos (castL q) (g : Int)] = g by omega] at this
  have hbt : ∀ g : Nat, g < s.size → bt (upS (castL q)) (g : Int) = bt s (g : Int) := by
    intro g hg
    have hnl : nxt s.size g < s.size := Nat.mod_lt _ (by omega)
    rw [upS_bt _ g (by omega), hcl, hl]
    rcases w3 (g : Int) (by omega) (by omega) with e | e
    · have h1 := hval g hg
      unfold fol at h1
      simp only [Bool.and_eq_true, Bool.or_eq_true, Bool.not_eq_true', decide_eq_false_iff_not] at h1
      rcases h1.2.2 with a | a
      · exact absurd e a
      · have := (hin _ _ hnl).1 a
        rw [if_neg (by omega), e]
    · have h1 := hval (nxt s.size g) hnl
      unfold fol at h1
      rw [bef_nxt s.size g (by omega) hg] at h1
      simp only [Bool.and_eq_true, Bool.or_eq_true, decide_eq_true_eq] at h1
      rcases h1.2.1 with a | a
      · omega
      · have := (hin _ _ hg).1 a
        rw [if_pos (by omega), e]
  rw [toList_bytes, toList_bytes]
  have hsz : (upS (castL q)).size = s.size := by rw [upS_size]; omega
  apply List.ext_getElem
  · have := hsz; simpa using this
  · intro n h1 h2
    have hn : n < s.size := by simpa using h2
    have := hbt n hn
    rw [bt_getElem _ n (by omega), bt_getElem s n hn] at this
    apply UInt8.toNat_inj.1
    omega

def e0 (E : Nat) : Int := if E = 0 then 1 else 0
/-- The number of a set when all smaller sets than D have been seen, and of D the first j gores. -/
def stg (s : ByteArray) (E D j : Nat) : Int := e0 E + sumN (fun g => if rmv E g < D ∨ rmv E g = D ∧ g < j then trm (VV s) s E g else 0) s.size
theorem trm_bit {s : ByteArray} {E g : Nat} (h : ¬ E.testBit g = true) : trm (VV s) s E g = 0 := by
  unfold trm; rw [if_neg (fun c => h c.1)]
theorem stg_done (s : ByteArray) (E D j : Nat) (h : E ≤ D) : stg s E D j = VV s E := by
  rw [VV_eq]
  unfold stg e0
  by_cases z : E = 0
  · rw [if_pos z, if_pos z, sumN_zero]
    · rfl
    · intro g _
      rw [trm_bit (by rw [z]; simp)]; split <;> rfl
  · rw [if_neg z, if_neg z, Int.zero_add]
    apply sumN_eq
    intro g _
    by_cases c : E.testBit g = true
    · rw [if_pos (.inl (by have := rmv_lt c; omega))]
    · rw [trm_bit c]; split <;> rfl
theorem stg_next (s : ByteArray) (E D : Nat) : stg s E D s.size = stg s E (D + 1) 0 := by
  unfold stg
  congr 1
  apply sumN_eq
  intro g hg
  by_cases c : rmv E g < D ∨ rmv E g = D ∧ g < s.size
  · rw [if_pos c, if_pos (.inl (by omega))]
  · rw [if_neg c, if_neg (by omega)]
theorem stg_same (s : ByteArray) (E D j : Nat) (h : rmv E j = D → trm (VV s) s E j = 0) : stg s E D (j + 1) = stg s E D j := by
  unfold stg
  congr 1
  apply sumN_eq
  intro g _
  by_cases e : g = j
  · subst e
    by_cases r : rmv E g = D
    · rw [h r]; split <;> split <;> rfl
    · by_cases c : rmv E g < D
      · rw [if_pos (.inl c), if_pos (.inl c)]
      · rw [if_neg (by omega), if_neg (by omega)]
  · by_cases c : rmv E g < D ∨ rmv E g = D ∧ g < j
    · rw [if_pos c, if_pos (by omega)]
    · rw [if_neg c, if_neg (by omega)]
theorem stg_add (s : ByteArray) (D j : Nat) (hj : j < s.size) (hf : fol s s.size (fun i => D.testBit i) j = true) : stg s (D ||| 2 ^ j) D (j + 1) = stg s (D ||| 2 ^ j) D j + VV s D := by
  have hb : D.testBit j = false := by
    unfold fol at hf
    cases z : D.testBit j with
    | false => rfl
    | true => simp [z] at hf
  have hr := or_rmv hb
  have ht : trm (VV s) s (D ||| 2 ^ j) j = VV s D := by
    unfold trm
    rw [hr, if_pos ⟨by rw [Nat.testBit_or, Nat.testBit_two_pow]; simp, hf⟩]
  unfold stg
  have := sumN_one (fun g => if rmv (D ||| 2 ^ j) g < D ∨ rmv (D ||| 2 ^ j) g = D ∧ g < j then trm (VV s) s (D ||| 2 ^ j) g else 0) (fun g => if rmv (D ||| 2 ^ j) g < D ∨ rmv (D ||| 2 ^ j) g = D ∧ g < j + 1 then trm (VV s) s (D ||| 2 ^ j) g else 0) j s.size hj (fun i _ hne => by
    by_cases c : rmv (D ||| 2 ^ j) i < D ∨ rmv (D ||| 2 ^ j) i = D ∧ i < j
    · rw [if_pos c, if_pos (by omega)]
    · rw [if_neg c, if_neg (by omega)])
  rw [this]
  have n1 : ¬ (rmv (D ||| 2 ^ j) j < D ∨ rmv (D ||| 2 ^ j) j = D ∧ j < j) := by omega
  have n2 : rmv (D ||| 2 ^ j) j < D ∨ rmv (D ||| 2 ^ j) j = D ∧ j < j + 1 := .inr ⟨hr, by omega⟩
  rw [if_pos n2, if_neg n1, ht]; omega
theorem stg_bd (s : ByteArray) (h12 : s.size ≤ 12) (E D j : Nat) : 0 ≤ stg s E D j ∧ stg s E D j ≤ 8916100448256 := by
  have h1 : stg s E D j ≤ stg s E E 0 := by
    unfold stg
    have := sumN_le (fun g => if rmv E g < D ∨ rmv E g = D ∧ g < j then trm (VV s) s E g else 0) (fun g => if rmv E g < E ∨ rmv E g = E ∧ g < 0 then trm (VV s) s E g else 0) s.size (fun g _ => by
      by_cases c : E.testBit g = true
      · have q : (if rmv E g < E ∨ rmv E g = E ∧ g < 0 then trm (VV s) s E g else 0) = trm (VV s) s E g := if_pos (.inl (rmv_lt c))
        have := trm_nonneg s E g
        show (if rmv E g < D ∨ rmv E g = D ∧ g < j then trm (VV s) s E g else 0) ≤ (if rmv E g < E ∨ rmv E g = E ∧ g < 0 then trm (VV s) s E g else 0)
        rw [q]; split <;> omega
      · show (if rmv E g < D ∨ rmv E g = D ∧ g < j then trm (VV s) s E g else 0) ≤ (if rmv E g < E ∨ rmv E g = E ∧ g < 0 then trm (VV s) s E g else 0)
        rw [trm_bit c]; split <;> split <;> omega)
    omega
  rw [stg_done s E E 0 (Nat.le_refl _)] at h1
  have h2 := VV_bd s h12 E
  refine ⟨?_, by omega⟩
  unfold stg e0
  have := sumN_nonneg (fun g => if rmv E g < D ∨ rmv E g = D ∧ g < j then trm (VV s) s E g else 0) s.size (fun g _ => by
    show 0 ≤ (if rmv E g < D ∨ rmv E g = D ∧ g < j then trm (VV s) s E g else 0)
    have := trm_nonneg s E g
    split <;> omega)
  split <;> omega
/-- What the table holds at a stage. -/
def Stg (s : ByteArray) (T : List Int) (D j : Nat) : Prop := T.length = 2 ^ s.size ∧ ∀ E : Nat, E < 2 ^ s.size → rd T (E : Int) = stg s E D j
theorem rd_set_nat (T : List Int) (i E : Nat) (v : Int) (hi : i < T.length) : rd (T.set i v) (E : Int) = if E = i then v else rd T (E : Int) := by
  unfold rd
  rw [Int.toNat_natCast, List.getD_eq_getElem?_getD, List.getD_eq_getElem?_getD, List.getElem?_set]
  by_cases e : i = E
  · subst e; rw [if_pos rfl, if_pos hi, if_pos rfl]; rfl
  · rw [if_neg e, if_neg (fun z => e z.symm)]
theorem Stg_skip {s : ByteArray} {T : List Int} {D j : Nat} (h : Stg s T D j) (hn : VV s D = 0 ∨ fol s s.size (fun i => D.testBit i) j = false) : Stg s T D (j + 1) := by
  refine ⟨h.1, fun E hE => ?_⟩
  rw [h.2 E hE, stg_same]
  intro r
  unfold trm
  rw [r]
  rcases hn with hn | hn
  · rw [hn]; split <;> rfl
  · rw [if_neg (fun c => by rw [hn] at c; simp at c)]
theorem Stg_put {s : ByteArray} {T : List Int} {D j : Nat} (h : Stg s T D j) (hj : j < s.size) (hD : D < 2 ^ s.size) (hf : fol s s.size (fun i => D.testBit i) j = true) : Stg s (T.set (D ||| 2 ^ j) (rd T ((D ||| 2 ^ j : Nat) : Int) + VV s D)) D (j + 1) := by
  have hlt : D ||| 2 ^ j < 2 ^ s.size := Nat.or_lt_two_pow hD (Nat.pow_lt_pow_right (by omega) hj)
  refine ⟨by rw [List.length_set]; exact h.1, fun E hE => ?_⟩
  rw [rd_set_nat _ _ _ _ (by rw [h.1]; exact hlt)]
  by_cases e : E = D ||| 2 ^ j
  · subst e
    rw [if_pos rfl, h.2 _ hlt, stg_add s D j hj hf]
  · rw [if_neg e, h.2 E hE, stg_same]
    intro r
    unfold trm
    rw [if_neg]
    intro c
    apply e
    rw [← r, rmv_or c.1]
theorem Stg_end {s : ByteArray} {T : List Int} {D : Nat} (h : Stg s T D s.size) : Stg s T (D + 1) 0 := ⟨h.1, fun E hE => by rw [h.2 E hE, stg_next]⟩
theorem Stg_none {s : ByteArray} {T : List Int} {D : Nat} (h : Stg s T D 0) (hn : VV s D = 0) : Stg s T (D + 1) 0 := by
  have key : ∀ j, Stg s T D j := by
    intro j
    induction j with
    | zero => exact h
    | succ j ih => exact Stg_skip ih (.inl hn)
  exact Stg_end (key s.size)
theorem Stg_at {s : ByteArray} {T : List Int} {D j : Nat} (h : Stg s T D j) (hD : D < 2 ^ s.size) : rd T (D : Int) = VV s D := by
  rw [h.2 D hD, stg_done s D D j (Nat.le_refl _)]
theorem Stg_start (s : ByteArray) : Stg s ((List.replicate (2 ^ s.size) 0).set 0 1) 0 0 := by
  refine ⟨by simp, fun E hE => ?_⟩
  rw [show (0 : Nat) = 0 from rfl, rd_set_nat _ 0 E 1 (by simp; exact Nat.two_pow_pos _)]
  unfold stg e0
  rw [sumN_zero _ _ (fun g _ => if_neg (by omega))]
  by_cases e : E = 0
  · rw [if_pos e, if_pos e]; rfl
  · rw [if_neg e, if_neg e]
    unfold rd
    rw [Int.toNat_natCast, List.getD_eq_getElem?_getD, List.getElem?_replicate]
    rw [if_pos hE]; rfl
def cntR (s : ByteArray) : Int × Int := if wanB s = true then (VV s (2 ^ s.size - 1), 0) else (0, 7)
section
variable (s : ByteArray) (h2 : 2 ≤ s.size) (h12 : s.size ≤ 12) (hl : ltrs s)
include h2 h12 hl
omit h2 hl in
theorem pow_le : 2 ^ s.size ≤ 4096 := by
  have : 2 ^ s.size ≤ 2 ^ 12 := Nat.pow_le_pow_right (by omega) h12
  omega
omit h2 hl in
theorem idx_ (D j : Nat) (hj : j < s.size) (hD : D < 2 ^ s.size) : Go.bits .or .i64 (D : Int) (shl .i64 1 (j : Int)) = ((D ||| 2 ^ j : Nat) : Int) := by
  have hp := pow_le s h12
  have hp2 : 2 ^ j ≤ 2 ^ 12 := Nat.pow_le_pow_right (by omega) (by omega)
  rw [shl1_ j (by omega), or_nat _ _ (by omega) (by omega)]
theorem implCount_1 (D : Nat) (hD : D < 2 ^ s.size) (r : Int × Int) (hn : ∀ T, Stg s T (D + 1) 0 → Ev (fun k => impl_CountOrders.l0 k s T ((2 ^ s.size : Nat) : Int) ((D + 1 : Nat) : Int)) r) : ∀ (d j : Nat) (T : List Int), s.size - j = d → j ≤ s.size → Stg s T D j → Ev (fun k => impl_CountOrders.l1 k s T (D : Int) (VV s D) ((2 ^ s.size : Nat) : Int) (D : Int) (s.size : Int) (j : Int)) r := by
  have hp := pow_le s h12
  intro d
  induction d with
  | zero =>
    intro j T hd hj hT
    obtain rfl : j = s.size := by omega
    refine Ev.step (h := fun k => impl_CountOrders.l0 k s T ((2 ^ s.size : Nat) : Int) ((D + 1 : Nat) : Int)) (fun k => ?_) (hn T (Stg_end hT))
    simp only [impl_CountOrders.l1]
    rw [if_neg (by omega), w64 (n := (D : Int) + 1) (by omega) (by omega)]; rfl
  | succ d ih =>
    intro j T hd hj hT
    have hM := MayFollow_ s h2 h12 hl D j (by omega)
    have skip : (VV s D = 0 ∨ fol s s.size (fun i => D.testBit i) j = false) → Ev (fun k => impl_CountOrders.l1 k s T (D : Int) (VV s D) ((2 ^ s.size : Nat) : Int) (D : Int) (s.size : Int) (wrap64 ((j : Int) + 1))) r := by
      intro h
      rw [w64 (by omega) (by omega)]
      exact ih (j + 1) T (by omega) (by omega) (Stg_skip hT h)
    by_cases v : VV s D > 0
    · by_cases f : fol s s.size (fun i => D.testBit i) j = true
      · have hlt : D ||| 2 ^ j < 2 ^ s.size := Nat.or_lt_two_pow hD (Nat.pow_lt_pow_right (by omega) (by omega))
        have hb := stg_bd s h12 (D ||| 2 ^ j) D j
        have hv := VV_bd s h12 D
        refine Ev.step (fun k => ?_) (ih (j + 1) _ (by omega) (by omega) (Stg_put hT (by omega) hD f))
        simp only [impl_CountOrders.l1]
        rw [if_pos (by omega), if_pos v, hM, f]; simp only [Option.bind_some, if_true]
        rw [if_pos (by omega), idx_ s h12 D j (by omega) hD, if_pos (by omega), if_pos (by rw [hT.1]; omega), Int.toNat_natCast, w64 (n := (j : Int) + 1) (by omega) (by omega), w64 (n := rd T ((D ||| 2 ^ j : Nat) : Int) + VV s D) (by rw [hT.2 _ hlt]; omega) (by rw [hT.2 _ hlt]; omega)]; rfl
      · have f : fol s s.size (fun i => D.testBit i) j = false := by simpa using f
        refine Ev.step (fun k => ?_) (skip (.inr f))
        simp only [impl_CountOrders.l1]
        rw [if_pos (by omega), if_pos v, hM, f]; simp
    · have v0 : VV s D = 0 := by have := VV_nonneg s D; omega
      refine Ev.step (fun k => ?_) (skip (.inl v0))
      simp only [impl_CountOrders.l1]
      rw [if_pos (by omega), if_neg v]
theorem implCount_0 : ∀ (d D : Nat) (T : List Int), 2 ^ s.size - D = d → D ≤ 2 ^ s.size → Stg s T D 0 → Ev (fun k => impl_CountOrders.l0 k s T ((2 ^ s.size : Nat) : Int) (D : Int)) (VV s (2 ^ s.size - 1), 0) := by
  have hp := pow_le s h12
  have hp0 := Nat.two_pow_pos s.size
  intro d
  induction d with
  | zero =>
    intro D T hd hD hT
    refine Ev.now (fun k => ?_)
    have e : ((T.length : Int) - 1) = ((2 ^ s.size - 1 : Nat) : Int) := by rw [hT.1]; omega
    simp only [impl_CountOrders.l0]
    rw [if_neg (by omega), w64 (by rw [hT.1]; omega) (by rw [hT.1]; omega), e, if_pos (by omega), if_pos (by rw [hT.1]; omega), hT.2 _ (by omega), stg_done _ _ _ _ (by omega)]
  | succ d ih =>
    intro D T hd hD hT
    refine Ev.step (fun k => ?_) (implCount_1 s h2 h12 hl D (by omega) _ (fun T' hT' => ih (D + 1) T' (by omega) (by omega) hT') s.size 0 T rfl (by omega) hT)
    simp only [impl_CountOrders.l0]
    rw [if_pos (by omega), if_pos (by omega), if_pos (by rw [hT.1]; omega), Stg_at hT (by omega)]; rfl
/-- The gores of a set, from j on. -/
def bl (D : Nat) : Nat → Nat → List Nat
  | 0, _ => []
  | d + 1, j => if D.testBit j = true then j :: bl D d (j + 1) else bl D d (j + 1)
omit h2 h12 hl in
theorem bl_mem (D : Nat) : ∀ (d j i : Nat), i ∈ bl D d j ↔ j ≤ i ∧ i < j + d ∧ D.testBit i = true
  | 0, j, i => by simp [bl]; omega
  | d + 1, j, i => by
    have ih := bl_mem D d (j + 1) i
    unfold bl
    by_cases c : D.testBit j = true
    · rw [if_pos c, List.mem_cons, ih]
      constructor
      · rintro (rfl | ⟨a, b, e⟩)
        · exact ⟨Nat.le_refl _, by omega, c⟩
        · exact ⟨by omega, by omega, e⟩
      · rintro ⟨a, b, e⟩
        by_cases z : i = j
        · exact .inl z
        · exact .inr ⟨by omega, by omega, e⟩
    · rw [if_neg c, ih]
      constructor
      · rintro ⟨a, b, e⟩; exact ⟨by omega, by omega, e⟩
      · rintro ⟨a, b, e⟩
        by_cases z : i = j
        · subst z; exact absurd e c
        · exact ⟨by omega, by omega, e⟩
omit h2 h12 hl in
theorem bl_len (D : Nat) : ∀ (d j : Nat), (bl D d j).length ≤ d
  | 0, _ => Nat.le_refl _
  | d + 1, j => by have := bl_len D d (j + 1); unfold bl; split <;> simp <;> omega
omit hl in
theorem specCount_1 (D : Nat) (T : List Int) (r : Int × Int) (hn : Ev (fun k => spec_CountOrders.l2 k s (s.size : Int) T (D : Int) (castL (bl D s.size 0)) 0) r) : ∀ (d j : Nat) (a : List Int), s.size - j = d → j ≤ s.size → a.length ≤ j → a ++ castL (bl D d j) = castL (bl D s.size 0) → Ev (fun k => spec_CountOrders.l1 k s (s.size : Int) T (D : Int) a (j : Int)) r := by
  intro d
  induction d with
  | zero =>
    intro j a hd hj ha he
    refine Ev.step (fun k => ?_) hn
    simp only [spec_CountOrders.l1]
    rw [if_neg (by omega), ← he]; simp [bl, castL]
  | succ d ih =>
    intro j a hd hj ha he
    have hu := u64s (j : Int) (by omega) (by omega)
    by_cases c : D.testBit j = true
    · refine Ev.step (fun k => ?_) (ih (j + 1) (a ++ [(j : Int)]) (by omega) (by omega) (by simp; omega) (by rw [← he]; simp only [bl, if_pos c, castL, List.map_cons, List.append_assoc, List.singleton_append]))
      simp only [spec_CountOrders.l1]
      rw [if_pos (by omega), hu, if_pos (by omega), bit_ D j (by omega), if_pos (by rw [if_pos c]), if_pos (by omega), w64 (n := (j : Int) + 1) (by omega) (by omega)]; rfl
    · refine Ev.step (fun k => ?_) (ih (j + 1) a (by omega) (by omega) (by omega) (by rw [← he]; simp only [bl, if_neg c]))
      simp only [spec_CountOrders.l1]
      rw [if_pos (by omega), hu, if_pos (by omega), bit_ D j (by omega), if_neg (by rw [if_neg c]; omega), w64 (n := (j : Int) + 1) (by omega) (by omega)]; rfl
omit hl in
theorem specCount_2 (D : Nat) (hD : D < 2 ^ s.size) (r : Int × Int) (hn : ∀ T, Stg s T (D + 1) 0 → Ev (fun k => spec_CountOrders.l0 k s (s.size : Int) T ((D + 1 : Nat) : Int)) r) : ∀ (d j : Nat) (T : List Int), s.size - j = d → j ≤ s.size → Stg s T D j → Ev (fun k => spec_CountOrders.l2 k s (s.size : Int) T (D : Int) (castL (bl D s.size 0)) (j : Int)) r := by
  have hp := pow_le s h12
  intro d
  induction d with
  | zero =>
    intro j T hd hj hT
    obtain rfl : j = s.size := by omega
    refine Ev.step (fun k => ?_) (hn T (Stg_end hT))
    simp only [spec_CountOrders.l2]
    rw [if_neg (by omega), w64 (n := (D : Int) + 1) (by omega) (by omega)]; rfl
  | succ d ih =>
    intro j T hd hj hT
    have hu := u64s (j : Int) (by omega) (by omega)
    have skip : fol s s.size (fun i => D.testBit i) j = false → Ev (fun k => spec_CountOrders.l2 k s (s.size : Int) T (D : Int) (castL (bl D s.size 0)) (wrap64 ((j : Int) + 1))) r := by
      intro h
      rw [w64 (by omega) (by omega)]
      exact ih (j + 1) T (by omega) (by omega) (Stg_skip hT (.inr h))
    by_cases c : D.testBit j = true
    · have f : fol s s.size (fun i => D.testBit i) j = false := by unfold fol; simp [c]
      refine Ev.step (fun k => ?_) (skip f)
      simp only [spec_CountOrders.l2]
      rw [if_pos (by omega), hu, if_pos (by omega), bit_ D j (by omega), if_neg (by rw [if_pos c]; omega)]
    · have hF := First_ s h2 h12 (castL (bl D s.size 0)) (by rw [castL_len]; have := bl_len D s.size 0; omega) (fun i => D.testBit i) (fun i hi => by rw [castL_mem, bl_mem]; exact ⟨fun h => ⟨by omega, by omega, h⟩, fun h => h.2.2⟩) j (by omega) (by simpa using c)
      refine Ev.step (h := fun k => (spec_l18First.f k s (castL (bl D s.size 0)) (j : Int)).bind fun t => if t = true then spec_CountOrders.l2 k s (s.size : Int) (T.set (D ||| 2 ^ j) (wrap64 (rd T ((D ||| 2 ^ j : Nat) : Int) + rd T (D : Int)))) (D : Int) (castL (bl D s.size 0)) (wrap64 ((j : Int) + 1)) else spec_CountOrders.l2 k s (s.size : Int) T (D : Int) (castL (bl D s.size 0)) (wrap64 ((j : Int) + 1))) (fun k => ?_) (Ev.bind hF ?_)
      · have hlt : D ||| 2 ^ j < 2 ^ s.size := Nat.or_lt_two_pow hD (Nat.pow_lt_pow_right (by omega) (by omega))
        simp only [spec_CountOrders.l2]
        rw [if_pos (by omega), hu, if_pos (by omega), bit_ D j (by omega), if_pos (by rw [if_neg c]), idx_ s h12 D j (by omega) hD, if_pos (show (0 : Int) ≤ ((D ||| 2 ^ j : Nat) : Int) by omega), if_pos (show ((D ||| 2 ^ j : Nat) : Int) < (T.length : Int) by rw [hT.1]; omega), if_pos (show (0 : Int) ≤ (D : Int) by omega), if_pos (show (D : Int) < (T.length : Int) by rw [hT.1]; omega), Int.toNat_natCast]
      · cases f : fol s s.size (fun i => D.testBit i) j with
        | false => exact Ev.eq (fun k => by rw [if_neg (by simp)]) (skip f)
        | true =>
          have hlt : D ||| 2 ^ j < 2 ^ s.size := Nat.or_lt_two_pow hD (Nat.pow_lt_pow_right (by omega) (by omega))
          have hb := stg_bd s h12 (D ||| 2 ^ j) D j
          have hv := VV_bd s h12 D
          have hv0 := VV_nonneg s D
          refine Ev.eq (fun k => ?_) (ih (j + 1) _ (by omega) (by omega) (Stg_put hT (by omega) hD f))
          rw [if_pos rfl, Stg_at hT hD, w64 (n := (j : Int) + 1) (by omega) (by omega), w64 (n := rd T ((D ||| 2 ^ j : Nat) : Int) + VV s D) (by rw [hT.2 _ hlt]; omega) (by rw [hT.2 _ hlt]; omega)]; rfl
omit hl in
theorem specCount_0 : ∀ (d D : Nat) (T : List Int), 2 ^ s.size - D = d → D ≤ 2 ^ s.size → Stg s T D 0 → Ev (fun k => spec_CountOrders.l0 k s (s.size : Int) T (D : Int)) (VV s (2 ^ s.size - 1), 0) := by
  have hp := pow_le s h12
  have hp0 := Nat.two_pow_pos s.size
  intro d
  induction d with
  | zero =>
    intro D T hd hD hT
    refine Ev.now (fun k => ?_)
    have e : ((T.length : Int) - 1) = ((2 ^ s.size - 1 : Nat) : Int) := by rw [hT.1]; omega
    simp only [spec_CountOrders.l0]
    rw [if_neg (by rw [hT.1]; omega), w64 (by rw [hT.1]; omega) (by rw [hT.1]; omega), e, if_pos (by omega), if_pos (by rw [hT.1]; omega), hT.2 _ (by omega), stg_done _ _ _ _ (by omega)]
  | succ d ih =>
    intro D T hd hD hT
    by_cases z : rd T (D : Int) = 0
    · refine Ev.step (fun k => ?_) (ih (D + 1) T (by omega) (by omega) (Stg_none hT (by rw [← Stg_at hT (by omega)]; exact z)))
      simp only [spec_CountOrders.l0]
      rw [if_pos (by rw [hT.1]; omega), if_pos (by omega), if_pos z, w64 (n := (D : Int) + 1) (by omega) (by omega)]; rfl
    · refine Ev.step (fun k => ?_) (specCount_1 s h2 h12 D T _ (specCount_2 s h2 h12 D (by omega) _ (fun T' hT' => ih (D + 1) T' (by omega) (by omega) hT') s.size 0 T rfl (by omega) hT) s.size 0 [] rfl (by omega) (by simp) (by simp))
      simp only [spec_CountOrders.l0]
      rw [if_pos (by rw [hT.1]; omega), if_pos (by omega), if_neg z]; rfl
end
theorem SpecCount_ (s : ByteArray) (hs : s.size ≤ 1048576) : Ev (fun k => spec_CountOrders.f k s) (cntR s) := by
  unfold cntR
  by_cases w : wanB s = true
  · obtain ⟨w1, w2, w3⟩ := wanB_says w
    have hp := pow_le s w2
    have hp0 := Nat.two_pow_pos s.size
    rw [if_pos w]
    refine Ev.eq (h := fun k => (spec_l18Wanted.f k s).bind fun t => if t = true then spec_CountOrders.l0 k s (s.size : Int) ((List.replicate (2 ^ s.size) 0).set 0 1) ((0 : Nat) : Int) else some (0, 7)) (fun k => ?_) (Ev.bind (SpecWanted_ s hs) (Ev.eq (fun k => by rw [if_pos w]) (specCount_0 s w1 w2 (2 ^ s.size) 0 _ (by omega) (by omega) (Stg_start s))))
    unfold spec_CountOrders.f
    congr 1; funext t
    cases t with
    | false => rfl
    | true =>
      have hlen : 0 < ((List.replicate (2 ^ s.size) (0 : Int)).length : Int) := by rw [List.length_replicate]; omega
      rw [if_pos rfl, if_pos rfl, u64s (s.size : Int) (by omega) (by omega), shl1_ s.size (by omega), if_pos (show (0 : Int) ≤ (s.size : Int) by omega), if_pos (show (0 : Int) ≤ ((2 ^ s.size : Nat) : Int) by omega), Int.toNat_natCast, if_pos (show 2 ^ s.size ≤ 35184372088832 by omega)]
      simp only [Option.bind_some]
      rw [if_pos hlen]; rfl
  · rw [if_neg w]
    refine Ev.eq (h := fun k => (spec_l18Wanted.f k s).bind fun t => if t = true then (if 0 ≤ (IntKind.u64.wrap ((s.size : Int))) then (if 0 ≤ (shl .i64 1 (IntKind.u64.wrap ((s.size : Int)))) then (if (shl .i64 1 (IntKind.u64.wrap ((s.size : Int))) : Int).toNat ≤ 35184372088832 then ((some (List.replicate (shl .i64 1 (IntKind.u64.wrap ((s.size : Int))) : Int).toNat 0 : List Int)).bind fun y107 => (if 0 < (y107.length : Int) then (spec_CountOrders.l0 k s (s.size : Int) (y107.set (0 : Int).toNat 1) 0) else (none))) else (none)) else (none)) else (none)) else some (0, 7)) (fun k => rfl) (Ev.bind (SpecWanted_ s hs) ⟨0, fun k _ => if_neg w⟩)
theorem ImplCount_ (s : ByteArray) : Ev (fun k => impl_CountOrders.f k s) (cntR s) := by
  unfold cntR
  by_cases w : wanB s = true
  · obtain ⟨w1, w2, w3⟩ := wanB_says w
    have hp := pow_le s w2
    have hp0 := Nat.two_pow_pos s.size
    rw [if_pos w]
    refine Ev.eq (h := fun k => impl_CountOrders.l0 k s ((List.replicate (2 ^ s.size) 0).set 0 1) ((2 ^ s.size : Nat) : Int) ((0 : Nat) : Int)) (fun k => ?_) (implCount_0 s w1 w2 w3 (2 ^ s.size) 0 _ (by omega) (by omega) (Stg_start s))
    unfold impl_CountOrders.f
    rw [AreSeams_, w]; simp only [Option.bind_some, if_true]
    have hlen : 0 < ((List.replicate (2 ^ s.size) (0 : Int)).length : Int) := by rw [List.length_replicate]; omega
    rw [shl1_ s.size (by omega), if_pos (show (0 : Int) ≤ ((2 ^ s.size : Nat) : Int) by omega), Int.toNat_natCast, if_pos (show 2 ^ s.size ≤ 35184372088832 by omega), if_pos hlen, List.length_replicate]; rfl
  · rw [if_neg w]
    exact ⟨0, fun k _ => by unfold impl_CountOrders.f; rw [AreSeams_, show wanB s = false by simpa using w]; rfl⟩

theorem rd_mem (l : List Int) (i : Int) (h0 : 0 ≤ i) (h : i < l.length) : rd l i ∈ l := by
  unfold rd
  rw [List.getD_eq_getElem?_getD, List.getElem?_eq_getElem (by omega)]
  exact List.getElem_mem _
theorem u64_range (n : Int) : 0 ≤ IntKind.u64.wrap n ∧ IntKind.u64.wrap n < 18446744073709551616 := by
  have e : IntKind.u64.wrap n = n % 18446744073709551616 := by simp [IntKind.wrap, IntKind.bits, IntKind.signed]
  rw [e]; omega
theorem low_byte (n : Int) : 0 ≤ Go.bits .and .u64 (IntKind.u64.wrap n / 1099511627776) 255 ∧ Go.bits .and .u64 (IntKind.u64.wrap n / 1099511627776) 255 ≤ 255 := by
  have h := u64_range n
  have e : Go.bits .and .u64 (IntKind.u64.wrap n / 1099511627776) 255 = (IntKind.u64.wrap n / 1099511627776) % 256 :=
    Go.bits_mask .u64 64 (by decide) (fun m g0 g1 => by
      have e : IntKind.u64.wrap m = m % 18446744073709551616 := by simp [IntKind.wrap, IntKind.bits, IntKind.signed]
      have : (2 : Int) ^ 64 = 18446744073709551616 := by decide
      rw [e]; omega) 8 (by decide) _ (by omega) (by have : (2 : Int) ^ 64 = 18446744073709551616 := by decide
                                                    omega)
  rw [e]; omega
theorem low_byte_w (n : Int) : 0 ≤ wrap64 (Go.bits .and .u64 (IntKind.u64.wrap n / 1099511627776) 255) ∧ wrap64 (Go.bits .and .u64 (IntKind.u64.wrap n / 1099511627776) 255) ≤ 255 := by
  have h := low_byte n
  rw [w64 (by omega) (by omega)]; exact h
theorem Next_ (l : List Int) (hl : ∀ x ∈ l, 0 ≤ x ∧ x ≤ 255) (a s : Int) (h0 : 0 ≤ a) (h1 : a ≤ 1152921504606846976) : ∃ v s', spec_l00Src_next.f l a s = some (v, a + 1, s') ∧ 0 ≤ v ∧ v ≤ 255 := by
  unfold spec_l00Src_next.f
  have hw : wrap64 (a + 1) = a + 1 := w64 (by omega) (by omega)
  by_cases c : a < (l.length : Int)
  · have hb := hl _ (rd_mem l a h0 c)
    rw [if_pos c, if_pos h0, hw, if_pos (by omega)]
    exact ⟨_, _, rfl, by rw [w64 (by omega) (by omega)]; omega, by rw [w64 (by omega) (by omega)]; omega⟩
  · rw [if_neg c, hw, if_neg (by omega)]
    exact ⟨_, _, rfl, (low_byte_w _).1, (low_byte_w _).2⟩

theorem Pick_ (l : List Int) (hl : ∀ x ∈ l, 0 ≤ x ∧ x ≤ 255) (a s n : Int) (h0 : 0 ≤ a) (h1 : a ≤ 1000000000000) : ∃ v a' s', spec_l00Src_pick.f l a s n = some (v, a', s') ∧ a ≤ a' ∧ a' ≤ a + 2 ∧ 0 ≤ v ∧ v ≤ 65535 ∧ (1 ≤ n → v < n) ∧ (n ≤ 1 → v = 0) := by
  unfold spec_l00Src_pick.f
  by_cases c : n ≤ 1
  · rw [if_pos c]; exact ⟨0, a, s, rfl, by omega, by omega, by omega, by omega, by omega, by omega⟩
  · obtain ⟨v, s', hv, v0, v1⟩ := Next_ l hl a s h0 (by omega)
    rw [if_neg c, hv]; simp only [Option.bind_some]
    by_cases d : n > 200
    · obtain ⟨u, s2, hu, u0, u1⟩ := Next_ l hl (a + 1) s' (by omega) (by omega)
      rw [if_pos d, hu]; simp only [Option.bind_some]
      rw [if_neg (by omega), w64 (n := v * 256) (by omega) (by omega), w64 (n := v * 256 + u) (by omega) (by omega), tmod_eq _ _ (by omega), if_pos (by omega)]
      have g0 := Int.emod_nonneg (v * 256 + u) (b := n) (by omega)
      have g1 := Int.emod_lt_of_pos (v * 256 + u) (b := n) (by omega)
      have g2 := Int.mul_ediv_add_emod (v * 256 + u) n
      have g3 := Int.mul_nonneg (show 0 ≤ n by omega) (Int.ediv_nonneg (show 0 ≤ v * 256 + u by omega) (show 0 ≤ n by omega))
      exact ⟨_, _, _, rfl, by omega, by omega, g0, by omega, fun _ => g1, fun _ => by omega⟩
    · rw [if_neg d, if_neg (by omega), tmod_eq _ _ (by omega), if_pos (by omega)]
      have g0 := Int.emod_nonneg v (b := n) (by omega)
      have g1 := Int.emod_lt_of_pos v (b := n) (by omega)
      exact ⟨_, _, _, rfl, by omega, by omega, g0, by omega, fun _ => g1, fun _ => by omega⟩

theorem One_ (l : List Int) (hl : ∀ x ∈ l, 0 ≤ x ∧ x ≤ 255) (a s n : Int) (h0 : 0 ≤ a) (h1 : a ≤ 1000000000000) : ∃ b a' s', spec_l00Src_one.f l a s n = some (b, a', s') ∧ a ≤ a' ∧ a' ≤ a + 2 := by
  unfold spec_l00Src_one.f
  obtain ⟨v, a', s', h, g1, g2, _⟩ := Pick_ l hl a s n h0 h1
  rw [h]; exact ⟨_, _, _, rfl, g1, g2⟩

theorem Among_ (l : List Int) (hl : ∀ x ∈ l, 0 ≤ x ∧ x ≤ 255) (a s : Int) (xs : List Int) (hx : 0 < xs.length) (h0 : 0 ≤ a) (h1 : a ≤ 1000000000000) : ∃ v a' s', spec_l00Src_among.f l a s xs = some (v, a', s') ∧ a ≤ a' ∧ a' ≤ a + 2 ∧ v ∈ xs := by
  unfold spec_l00Src_among.f
  obtain ⟨v, a', s', h, g1, g2, g3, g4, g5, g6⟩ := Pick_ l hl a s xs.length h0 h1
  have := g5 (by omega)
  rw [h]; simp only [Option.bind_some]
  rw [if_pos g3, if_pos this]
  exact ⟨_, _, _, rfl, g1, g2, rd_mem _ _ g3 this⟩

theorem own22_ (l : List Int) (hl : l.length ≤ 1048576) : spec_l00Own.f l = some l := by
  unfold spec_l00Own.f
  simp only [Option.bind_some]
  rw [if_pos (by simp; omega)]; simp

theorem Perm_l (l : List Int) (hl : ∀ x ∈ l, 0 ≤ x ∧ x ≤ 255) (n : Int) (hn : n ≤ 100) : ∀ (d : Nat) (i a s : Int) (R : List Int), (n - i).toNat = d → 0 ≤ i → (R.length : Int) = i → 0 ≤ a → a + 2 * d ≤ 100000000000 → EvP (fun k => spec_l18Perm.l0 k n R i l a s) (fun r => (r.1.length : Int) = i + d ∧ a ≤ r.2.1 ∧ r.2.1 ≤ a + 2 * d) := by
  intro d
  induction d with
  | zero =>
    intro i a s R hd hi hR h0 h1
    refine ⟨(R, a, s), ⟨by show (R.length : Int) = i + ((0 : Nat) : Int); omega, Int.le_refl _, by show a ≤ a + 2 * ((0 : Nat) : Int); omega⟩, Ev.now (fun k => ?_)⟩
    simp only [spec_l18Perm.l0]
    rw [if_neg (by omega)]
  | succ d ih =>
    intro i a s R hd hi hR h0 h1
    obtain ⟨v, a', s', hv, g1, g2, g3, g4, g5, g6⟩ := Pick_ l hl a s (i + 1) h0 (by omega)
    have hv1 : v < i + 1 := g5 (by omega)
    have hlen : ((R.take v.toNat ++ [i] ++ R.drop v.toNat).length : Int) = i + 1 := by
      simp only [List.length_append, List.length_take, List.length_drop, List.length_cons, List.length_nil]; omega
    obtain ⟨r, ⟨r1, r2, r3⟩, r4⟩ := ih (i + 1) a' s' (R.take v.toNat ++ [i] ++ R.drop v.toNat) (by omega) (by omega) hlen (by omega) (by omega)
    refine ⟨r, ⟨by omega, by omega, by omega⟩, Ev.step (fun k => ?_) r4⟩
    have ht : (R.take v.toNat).length ≤ 1048576 := by rw [List.length_take]; omega
    simp only [spec_l18Perm.l0]
    rw [if_pos (by omega), w64 (n := i + 1) (by omega) (by omega), hv]; simp only [Option.bind_some]
    rw [if_pos g3, if_pos (by omega), own22_ _ ht]; simp only [Option.bind_some]
    rw [if_pos (by omega), if_pos (by simp only [List.length_append, List.length_cons, List.length_nil, List.length_drop]; omega)]
theorem Draw18_j0 (l : List Int) (hl : ∀ x ∈ l, 0 ≤ x ∧ x ≤ 255) (n a s : Int) (n0 : 0 ≤ n) (hn : n ≤ 13) (h0 : 0 ≤ a) (h1 : a ≤ 1000000000) : EvP (fun k => spec_l18Draw.j0 k n l a s) (fun r => r.1.length ≤ 13 ∧ a ≤ r.2.1 ∧ r.2.1 ≤ a + 100) := by
  obtain ⟨P, ⟨p1, p2, p3⟩, p4⟩ := Perm_l l hl n (by omega) n.toNat 0 a s [] (by omega) (by omega) rfl h0 (by omega)
  by_cases c : n > 0
  · obtain ⟨b, a', s', hb, g1, g2⟩ := One_ l hl P.2.1 P.2.2 12 (by omega) (by omega)
    cases b with
    | false =>
      refine ⟨(P.1, a', s'), ⟨by show P.1.length ≤ 13; omega, by show a ≤ a'; omega, by show a' ≤ a + 100; omega⟩, Ev.step (h := fun k => (spec_l18Perm.f k l a s n).bind fun t => if n > 0 then ((spec_l00Src_one.f l t.2.1 t.2.2 12).bind fun u => if u.1 = true then ((spec_l00Src_among.f l u.2.1 u.2.2 [-1, 0, wrap64 (n - 1), n, -9223372036854775808]).bind fun v => if 0 < (t.1.length : Int) then some (t.1.set (0 : Int).toNat v.1, v.2.1, v.2.2) else none) else some (t.1, u.2.1, u.2.2)) else some (t.1, t.2.1, t.2.2)) (fun k => rfl) (Ev.bind p4 ⟨0, fun k _ => ?_⟩)⟩
      show (if n > 0 then ((spec_l00Src_one.f l P.2.1 P.2.2 12).bind fun u => if u.1 = true then ((spec_l00Src_among.f l u.2.1 u.2.2 [-1, 0, wrap64 (n - 1), n, -9223372036854775808]).bind fun v => if 0 < (P.1.length : Int) then some (P.1.set (0 : Int).toNat v.1, v.2.1, v.2.2) else none) else some (P.1, u.2.1, u.2.2)) else some (P.1, P.2.1, P.2.2)) = _
      rw [if_pos c, hb]; rfl
    | true =>
      obtain ⟨u, a2, s2, hu, q1, q2, _⟩ := Among_ l hl a' s' [-1, 0, wrap64 (n - 1), n, -9223372036854775808] (by simp) (by omega) (by omega)
      refine ⟨(P.1.set (0 : Int).toNat u, a2, s2), ⟨by show (P.1.set (0 : Int).toNat u).length ≤ 13; rw [List.length_set]; omega, by show a ≤ a2; omega, by show a2 ≤ a + 100; omega⟩, Ev.step (h := fun k => (spec_l18Perm.f k l a s n).bind fun t => if n > 0 then ((spec_l00Src_one.f l t.2.1 t.2.2 12).bind fun u => if u.1 = true then ((spec_l00Src_among.f l u.2.1 u.2.2 [-1, 0, wrap64 (n - 1), n, -9223372036854775808]).bind fun v => if 0 < (t.1.length : Int) then some (t.1.set (0 : Int).toNat v.1, v.2.1, v.2.2) else none) else some (t.1, u.2.1, u.2.2)) else some (t.1, t.2.1, t.2.2)) (fun k => rfl) (Ev.bind p4 ⟨0, fun k _ => ?_⟩)⟩
      show (if n > 0 then ((spec_l00Src_one.f l P.2.1 P.2.2 12).bind fun u => if u.1 = true then ((spec_l00Src_among.f l u.2.1 u.2.2 [-1, 0, wrap64 (n - 1), n, -9223372036854775808]).bind fun v => if 0 < (P.1.length : Int) then some (P.1.set (0 : Int).toNat v.1, v.2.1, v.2.2) else none) else some (P.1, u.2.1, u.2.2)) else some (P.1, P.2.1, P.2.2)) = _
      rw [if_pos c, hb]; simp only [Option.bind_some, if_true]
      rw [hu]; simp only [Option.bind_some]
      rw [if_pos (by omega)]
  · refine ⟨(P.1, P.2.1, P.2.2), ⟨by show P.1.length ≤ 13; omega, by show a ≤ P.2.1; omega, by show P.2.1 ≤ a + 100; omega⟩, Ev.step (h := fun k => (spec_l18Perm.f k l a s n).bind fun t => if n > 0 then ((spec_l00Src_one.f l t.2.1 t.2.2 12).bind fun u => if u.1 = true then ((spec_l00Src_among.f l u.2.1 u.2.2 [-1, 0, wrap64 (n - 1), n, -9223372036854775808]).bind fun v => if 0 < (t.1.length : Int) then some (t.1.set (0 : Int).toNat v.1, v.2.1, v.2.2) else none) else some (t.1, u.2.1, u.2.2)) else some (t.1, t.2.1, t.2.2)) (fun k => rfl) (Ev.bind p4 ⟨0, fun k _ => ?_⟩)⟩
    exact if_neg c
theorem Draw18_ (l : List Int) (hl : ∀ x ∈ l, 0 ≤ x ∧ x ≤ 255) (a s : Int) (h0 : 0 ≤ a) (h1 : a ≤ 100000000) : EvP (fun k => spec_l18Draw.f k l a s) (fun r => r.1.length ≤ 13 ∧ a ≤ r.2.1 ∧ r.2.1 ≤ a + 1000) := by
  obtain ⟨v, a1, s1, hv, g1, g2, g3, g4, g5, g6⟩ := Pick_ l hl a s 7 h0 (by omega)
  obtain ⟨b, a2, s2, hb, q1, q2⟩ := One_ l hl a1 s1 12 (by omega) (by omega)
  have := g5 (by omega)
  cases b with
  | false =>
    obtain ⟨R, ⟨r1, r2, r3⟩, r4⟩ := Draw18_j0 l hl (2 + v) a2 s2 (by omega) (by omega) (by omega) (by omega)
    refine ⟨R, ⟨r1, by omega, by omega⟩, Ev.eq (fun k => ?_) r4⟩
    unfold spec_l18Draw.f
    rw [hv]; simp only [Option.bind_some]
    rw [hb]; simp only [Option.bind_some, Bool.false_eq_true, if_false]
    rw [w64 (n := 2 + v) (by omega) (by omega)]
  | true =>
    obtain ⟨u, a3, s3, hu, p1, p2, p3⟩ := Among_ l hl a2 s2 [0, 1, 2, 12, 13] (by simp) (by omega) (by omega)
    have hu2 : 0 ≤ u ∧ u ≤ 13 := by
      simp only [List.mem_cons, List.mem_nil_iff, or_false] at p3
      rcases p3 with rfl | rfl | rfl | rfl | rfl <;> omega
    obtain ⟨R, ⟨r1, r2, r3⟩, r4⟩ := Draw18_j0 l hl u a3 s3 hu2.1 hu2.2 (by omega) (by omega)
    refine ⟨R, ⟨r1, by omega, by omega⟩, Ev.eq (fun k => ?_) r4⟩
    unfold spec_l18Draw.f
    rw [hv]; simp only [Option.bind_some]
    rw [hb]; simp only [Option.bind_some, if_true]
    rw [hu]; rfl

theorem TextPick_ (l : List Int) (hl : ∀ x ∈ l, 0 ≤ x ∧ x ≤ 255) (a s : Int) (xs : List ByteArray) (hx : 0 < xs.length) (h0 : 0 ≤ a) (h1 : a ≤ 1000000000000) : ∃ v a' s', spec_l00Src_text.f l a s xs = some (v, a', s') ∧ a ≤ a' ∧ a' ≤ a + 2 ∧ v ∈ xs := by
  unfold spec_l00Src_text.f
  obtain ⟨v, a', s', h, g1, g2, g3, g4, g5, g6⟩ := Pick_ l hl a s xs.length h0 h1
  have := g5 (by omega)
  rw [h]; simp only [Option.bind_some]
  rw [if_pos g3, if_pos this]
  refine ⟨_, _, _, rfl, g1, g2, ?_⟩
  unfold rdOf
  rw [List.getD_eq_getElem?_getD, List.getElem?_eq_getElem (by omega)]
  exact List.getElem_mem _

theorem Wanted_l (l : List Int) (hl : ∀ x ∈ l, 0 ≤ x ∧ x ≤ 255) : ∀ (d : Nat) (n a s : Int) (t : ByteArray), n.toNat = d → n ≤ 100 → t.size + d ≤ 1000 → 0 ≤ a → a + 2 * d ≤ 100000000000 → EvP (fun k => spec_l18DrawWanted.l0 k t n l a s) (fun r => r.1.size ≤ t.size + d + 1) := by
  intro d
  induction d with
  | zero =>
    intro n a s t hd hn ht h0 h1
    obtain ⟨b, a1, s1, hb, q1, q2⟩ := One_ l hl a s 12 h0 (by omega)
    cases b with
    | false =>
      refine ⟨(t, a1, s1), by show t.size ≤ t.size + 0 + 1; omega, Ev.now (fun k => ?_)⟩
      simp only [spec_l18DrawWanted.l0]
      rw [if_neg (by omega), hb]; rfl
    | true =>
      obtain ⟨x, a2, s2, hx, p1, p2, p3⟩ := TextPick_ l hl a1 s1 [(⟨#[45]⟩ : ByteArray), (⟨#[60]⟩ : ByteArray), (⟨#[32]⟩ : ByteArray)] (by simp) (by omega) (by omega)
      have hxs : x.size = 1 := by
        simp only [List.mem_cons, List.mem_nil_iff, or_false] at p3
        rcases p3 with rfl | rfl | rfl <;> rfl
      refine ⟨(t ++ x, a2, s2), by show (t ++ x).size ≤ t.size + 0 + 1; rw [ByteArray.size_append]; omega, Ev.now (fun k => ?_)⟩
      simp only [spec_l18DrawWanted.l0]
      rw [if_neg (by omega), hb]; simp only [Option.bind_some, if_true]
      rw [hx]; simp only [Option.bind_some]
      rw [if_pos (by omega)]
  | succ d ih =>
    intro n a s t hd hn ht h0 h1
    obtain ⟨x, a2, s2, hx, p1, p2, p3⟩ := TextPick_ l hl a s [(⟨#[60]⟩ : ByteArray), (⟨#[62]⟩ : ByteArray)] (by simp) (by omega) (by omega)
    have hxs : x.size = 1 := by
      simp only [List.mem_cons, List.mem_nil_iff, or_false] at p3
      rcases p3 with rfl | rfl <;> rfl
    obtain ⟨r, r1, r2⟩ := ih (n - 1) a2 s2 (t ++ x) (by omega) (by omega) (by rw [ByteArray.size_append]; omega) (by omega) (by omega)
    refine ⟨r, by rw [ByteArray.size_append] at r1; omega, Ev.step (fun k => ?_) r2⟩
    simp only [spec_l18DrawWanted.l0]
    rw [if_pos (by omega), hx]; simp only [Option.bind_some]
    rw [if_pos (by omega), w64 (n := n - 1) (by omega) (by omega)]
theorem DrawWanted_ (l : List Int) (hl : ∀ x ∈ l, 0 ≤ x ∧ x ≤ 255) : EvP (fun k => spec_l18DrawWanted.f k l 0 0) (fun r => r.1.size ≤ 100) := by
  have j1 : ∀ n a s : Int, n ≤ 13 → 0 ≤ a → a ≤ 100000 → EvP (fun k => spec_l18DrawWanted.j1 k (⟨#[]⟩ : ByteArray) n l a s) (fun r => r.1.size ≤ 100) := fun n a s hn h0 h1 => by
    obtain ⟨r, r1, r2⟩ := Wanted_l l hl n.toNat n a s ⟨#[]⟩ rfl (by omega) (by show 0 + n.toNat ≤ 1000; omega) h0 (by omega)
    exact ⟨r, by have : (⟨#[]⟩ : ByteArray).size = 0 := rfl; omega, Ev.step (fun k => rfl) r2⟩
  have j0 : ∀ a s : Int, 0 ≤ a → a ≤ 10000 → EvP (fun k => spec_l18DrawWanted.j0 k l a s) (fun r => r.1.size ≤ 100) := fun a s h0 h1 => by
    obtain ⟨v, a1, s1, hv, g1, g2, g3, g4, g5, g6⟩ := Pick_ l hl a s 6 h0 (by omega)
    obtain ⟨b, a2, s2, hb, q1, q2⟩ := One_ l hl a1 s1 16 (by omega) (by omega)
    have := g5 (by omega)
    cases b with
    | false =>
      obtain ⟨r, r1, r2⟩ := j1 (2 + v) a2 s2 (by omega) (by omega) (by omega)
      refine ⟨r, r1, Ev.step (fun k => ?_) r2⟩
      simp only [spec_l18DrawWanted.j0]
      rw [hv]; simp only [Option.bind_some]
      rw [hb]; simp only [Option.bind_some, Bool.false_eq_true, if_false]
      rw [w64 (n := 2 + v) (by omega) (by omega)]
    | true =>
      obtain ⟨u, a3, s3, hu, p1, p2, p3⟩ := Among_ l hl a2 s2 [0, 1, 12, 13] (by simp) (by omega) (by omega)
      have hu2 : u ≤ 13 := by
        simp only [List.mem_cons, List.mem_nil_iff, or_false] at p3
        rcases p3 with rfl | rfl | rfl | rfl <;> omega
      obtain ⟨r, r1, r2⟩ := j1 u a3 s3 hu2 (by omega) (by omega)
      refine ⟨r, r1, Ev.step (fun k => ?_) r2⟩
      simp only [spec_l18DrawWanted.j0]
      rw [hv]; simp only [Option.bind_some]
      rw [hb]; simp only [Option.bind_some, if_true]
      rw [hu]; rfl
  obtain ⟨b, a1, s1, hb, q1, q2⟩ := One_ l hl 0 0 2 (by omega) (by omega)
  cases b with
  | false =>
    obtain ⟨r, r1, r2⟩ := j0 a1 s1 (by omega) (by omega)
    refine ⟨r, r1, Ev.eq (fun k => ?_) r2⟩
    unfold spec_l18DrawWanted.f
    rw [hb]; rfl
  | true =>
    obtain ⟨D, ⟨d1, d2, d3⟩, d4⟩ := Draw18_ l hl a1 s1 (by omega) (by omega)
    have key : EvP (fun k => (spec_l18Ok.f k D.1).bind fun t => if t = true then ((spec_l18Upper.f k D.1).bind fun u => some (u, D.2.1, D.2.2)) else spec_l18DrawWanted.j0 k l D.2.1 D.2.2) (fun r => r.1.size ≤ 100) := by
      by_cases o : okO D.1 = true
      · refine ⟨(strOfNums (upT D.1 D.1.length 0), D.2.1, D.2.2), ?_, Ev.bind (SpecOrd_ D.1) (Ev.eq (h := fun k => (spec_l18Upper.f k D.1).bind fun u => some (u, D.2.1, D.2.2)) (fun k => by rw [if_pos o]) (Ev.bind (SpecUpper_ o) ⟨0, fun k _ => rfl⟩))⟩
        have hz : ∀ (d : Nat) (k : Int), (upT D.1 d k).length = d := by
          intro d
          induction d with
          | zero => exact fun k => rfl
          | succ d ih => exact fun k => by unfold upT; rw [List.length_cons, ih]
        show (strOfNums (upT D.1 D.1.length 0)).size ≤ 100
        rw [strOfNums_size, hz]; omega
      · obtain ⟨r, r1, r2⟩ := j0 D.2.1 D.2.2 (by omega) (by omega)
        exact ⟨r, r1, Ev.bind (SpecOrd_ D.1) (Ev.eq (fun k => by rw [if_neg o]) r2)⟩
    obtain ⟨r, r1, r2⟩ := key
    refine ⟨r, r1, Ev.eq (h := fun k => (spec_l18Draw.f k l a1 s1).bind fun D => (spec_l18Ok.f k D.1).bind fun t => if t = true then ((spec_l18Upper.f k D.1).bind fun u => some (u, D.2.1, D.2.2)) else spec_l18DrawWanted.j0 k l D.2.1 D.2.2) (fun k => ?_) (Ev.bind d4 r2)⟩
    unfold spec_l18DrawWanted.f
    rw [hb]; rfl

def uppR (l : List Int) : ByteArray × Int := if okO l = true then (strOfNums (upT l l.length 0), 0) else (⟨#[]⟩, 1)
theorem SpecUpperAt_ (l : List Int) : Ev (fun k => spec_UpperAt.f k l) (uppR l) := by
  refine Ev.eq (h := fun k => (spec_l18Ok.f k l).bind fun t => if t = true then ((spec_l18Upper.f k l).bind fun t => some (t, 0)) else some (⟨#[]⟩, 1)) (fun k => rfl) (Ev.bind (SpecOrd_ l) ?_)
  unfold uppR
  by_cases h : okO l = true
  · rw [if_pos h]; exact Ev.eq (h := fun k => (spec_l18Upper.f k l).bind fun t => some (t, 0)) (fun k => by rw [if_pos h]) (Ev.bind (SpecUpper_ h) ⟨0, fun k _ => rfl⟩)
  · rw [if_neg h]; exact ⟨0, fun k _ => if_neg h⟩
theorem ImplUpperAt_ (l : List Int) (hl : l.length ≤ 1048576) : Ev (fun k => impl_UpperAt.f k l) (uppR l) := by
  refine Ev.eq (h := fun k => (impl_ValidOrder.f k l).bind fun t => if t = true then ((impl_upperAt.f k l).bind fun t => some (t, 0)) else some (⟨#[]⟩, 1)) (fun k => rfl) (Ev.bind (ImplOrd_ l hl) ?_)
  unfold uppR
  by_cases h : okO l = true
  · rw [if_pos h]; exact Ev.eq (h := fun k => (impl_upperAt.f k l).bind fun t => some (t, 0)) (fun k => by rw [if_pos h]) (Ev.bind (ImplUpper_ h) ⟨0, fun k _ => rfl⟩)
  · rw [if_neg h]; exact ⟨0, fun k _ => if_neg h⟩

theorem f6ints_l (l : List Int) (hl : l.length ≤ 1152921504606846976) : ∀ (d k : Nat) (i : Int), (l.length : Int) - i = d → 0 ≤ i → d < k → laws_f6ints.l0 k l l i = some true := by
  intro d
  induction d with
  | zero =>
    intro k i hd h0 hk
    obtain ⟨k, rfl⟩ : ∃ m, k = m + 1 := ⟨k - 1, by omega⟩
    simp only [laws_f6ints.l0]; rw [if_neg (by omega)]
  | succ d ih =>
    intro k i hd h0 hk
    obtain ⟨k, rfl⟩ : ∃ m, k = m + 1 := ⟨k - 1, by omega⟩
    simp only [laws_f6ints.l0]
    rw [if_pos (by omega), if_pos h0, if_pos (by omega), if_pos trivial, w64 (by omega) (by omega)]
    exact ih k (i + 1) (by omega) (by omega) (by omega)
theorem f6ints_ (l : List Int) (hl : l.length ≤ 1152921504606846976) (k : Nat) (hk : l.length < k) : laws_f6ints.f k l l = some true := by
  unfold laws_f6ints.f
  rw [if_pos rfl]; exact f6ints_l l hl l.length k 0 (by omega) (by omega) hk

theorem bytes_of {l : List Int} (h : ∀ x ∈ l, (Lit.int .u8 x).wf = true) : ∀ x ∈ l, 0 ≤ x ∧ x ≤ 255 := by
  intro x hx
  simpa [Lit.wf, IntKind.min, IntKind.max, IntKind.signed, IntKind.bits] using h x hx

theorem ordR_0 (s : ByteArray) : ((ordR s).2 = 0 ↔ wanB s = true ∧ (grd s s.size []).length = s.size) ∧ ((ordR s).2 = 0 → (ordR s).1 = castL (grd s s.size [])) := by
  have hg := (grd_len s s.size []).2
  simp only [List.length_nil, Nat.zero_add] at hg
  unfold ordR
  by_cases w : wanB s = true
  · rw [if_pos w]
    by_cases c : (grd s s.size []).length < s.size
    · rw [if_pos c]
      exact ⟨⟨fun h => absurd h (by decide), fun h => by omega⟩, fun h => absurd h (by decide)⟩
    · rw [if_neg c]
      exact ⟨⟨fun _ => ⟨w, by omega⟩, fun _ => rfl⟩, fun _ => rfl⟩
  · rw [if_neg w]
    exact ⟨⟨fun h => absurd h (by decide), fun h => absurd h.1 w⟩, fun h => absurd h (by decide)⟩
theorem FnSeamsHidden : laws_FnSeamsHidden.Pure := by
  intro l _ _ hl
  have hl := bytes_of hl
  by_cases hb : (l.length : Int) > 4096
  · exact ⟨0, by
      unfold laws_FnSeamsHidden.f
      rw [show laws_f6big.f l = some (decide ((l.length : Int) > 4096)) from rfl, decide_eq_true hb]; rfl⟩
  obtain ⟨⟨w, w2, w3⟩, hw, K1, e1⟩ := DrawWanted_ l hl
  obtain ⟨⟨a, a2, a3⟩, ⟨ha, _, _⟩, K2, e2⟩ := Draw18_ l hl 0 0 (by omega) (by omega)
  dsimp only at e1 e2 hw ha
  obtain ⟨K3, e3⟩ := ImplOrderFor_ w
  obtain ⟨K4, e4⟩ := SpecOrderFor_ w (by omega)
  obtain ⟨K5, e5⟩ := ImplCount_ w
  obtain ⟨K6, e6⟩ := SpecCount_ w (by omega)
  obtain ⟨K7, e7⟩ := ImplUpperAt_ a (by omega)
  obtain ⟨K8, e8⟩ := SpecUpperAt_ a
  obtain ⟨K9, e9⟩ := ImplOrd_ a (by omega)
  obtain ⟨K10, e10⟩ := SpecOrd_ a
  obtain ⟨K11, e11⟩ := ImplOrderFor_ (uppR a).1
  have hol := ordR_len w
  obtain ⟨K12, e12⟩ := ImplUpperAt_ (ordR w).1 (by omega)
  dsimp only at e3 e4 e5 e6 e7 e8 e9 e10 e11 e12
  obtain ⟨h0, h0c⟩ := ordR_0 w
  -- the counting tells whether there is one
  have hcnt : (cntR w).2 = 0 → (decide ((cntR w).1 > 0) != ((ordR w).2 == 0)) = false := by
    intro hc
    have hwan : wanB w = true := by
      unfold cntR at hc
      by_cases q : wanB w = true
      · exact q
      · rw [if_neg q] at hc; exact absurd hc (by decide)
    have hv : (cntR w).1 = VV w (2 ^ w.size - 1) := by unfold cntR; rw [if_pos hwan]
    rw [hv]
    have hi := count_iff w
    by_cases c : 0 < VV w (2 ^ w.size - 1)
    · rw [decide_eq_true (show VV w (2 ^ w.size - 1) > 0 from c), h0.2 ⟨hwan, hi.1 c⟩]; rfl
    · rw [decide_eq_false (show ¬ VV w (2 ^ w.size - 1) > 0 from c)]
      have : ¬ (ordR w).2 = 0 := fun z => c (hi.2 (h0.1 z).2)
      have hb : ((ordR w).2 == 0) = false := by simpa using this
      rw [hb]; rfl
  -- each order's own seams have an order
  have hown : (uppR a).2 = 0 → (ordR (uppR a).1).2 = 0 ∧ (ordR (uppR a).1).1.length = a.length := by
    intro hu
    have ho : okO a = true := by
      unfold uppR at hu
      by_cases q : okO a = true
      · exact q
      · rw [if_neg q] at hu; exact absurd hu (by decide)
    have hs : (uppR a).1 = upS a := by unfold uppR upS; rw [if_pos ho]
    rw [hs]
    obtain ⟨q, q1, q2, q3, q4⟩ := ord_path ho
    have hf := grd_full q2 q3 q4 (upS a).size [] (by simp)
    obtain ⟨g0, g1⟩ := ordR_0 (upS a)
    have hz := g0.2 ⟨upS_wan ho, hf⟩
    exact ⟨hz, by rw [g1 hz, castL_len, hf, upS_size]⟩
  -- an order that is told has the wanted seams
  have htold : (ordR w).2 = 0 → (uppR (ordR w).1).2 = 0 ∧ (uppR (ordR w).1).1.toList = w.toList := by
    intro hz
    obtain ⟨g0, g1⟩ := h0.1 hz
    obtain ⟨f1, f2⟩ := found_ord g0 g1
    rw [h0c hz]
    unfold uppR
    rw [if_pos f1]
    exact ⟨rfl, f2⟩
  refine ⟨3000 + (K1 + K2 + K3 + K4 + K5 + K6 + K7 + K8 + K9 + K10 + K11 + K12), ?_⟩
  generalize hk : 3000 + (K1 + K2 + K3 + K4 + K5 + K6 + K7 + K8 + K9 + K10 + K11 + K12) = k
  unfold laws_FnSeamsHidden.f
  rw [show laws_f6big.f l = some (decide ((l.length : Int) > 4096)) from rfl, decide_eq_false hb]; simp only [Option.bind_some, Bool.false_eq_true, if_false]
  rw [show spec_DrawOrderFor.f k l = some w from by
    show (spec_l18DrawWanted.f k l 0 0).bind (fun t => some t.1) = some w
    rw [e1 k (by omega)]; rfl]; simp only [Option.bind_some]
  rw [e3 k (by omega)]; simp only [Option.bind_some]
  rw [e4 k (by omega)]; simp only [Option.bind_some]
  rw [e5 k (by omega)]; simp only [Option.bind_some]
  rw [e6 k (by omega)]; simp only [Option.bind_some]
  rw [show spec_DrawUpperAt.f k l = some a from by
    show (spec_l18Draw.f k l 0 0).bind (fun t => some t.1) = some a
    rw [e2 k (by omega)]; rfl]; simp only [Option.bind_some]
  rw [e7 k (by omega)]; simp only [Option.bind_some]
  rw [e8 k (by omega)]; simp only [Option.bind_some, if_true]
  rw [f6ints_ (ordR w).1 (by omega) k (by omega)]; simp only [Option.bind_some, if_true]
  rw [e9 k (by omega)]; simp only [Option.bind_some]
  rw [show spec_ValidOrder.f k a = some (okO a) from by unfold spec_ValidOrder.f; rw [e10 k (by omega)]; rfl]; simp only [Option.bind_some, bne_self_eq_false]
  obtain ⟨k, rfl⟩ : ∃ m, k = m + 1 := ⟨k - 1, by omega⟩
  obtain ⟨k, rfl⟩ : ∃ m, k = m + 1 := ⟨k - 1, by omega⟩
  obtain ⟨k, rfl⟩ : ∃ m, k = m + 1 := ⟨k - 1, by omega⟩
  have last : ∀ m, 3000 + (K1 + K2 + K3 + K4 + K5 + K6 + K7 + K8 + K9 + K10 + K11 + K12) ≤ m + 10 → (if (ordR w).2 = 0 then ((impl_UpperAt.f m (ordR w).1).bind fun t => if t.2 = 0 then some (t.1.toList == w.toList) else some false) else some true) = some true := by
    intro m hm
    by_cases z : (ordR w).2 = 0
    · obtain ⟨t1, t2⟩ := htold z
      rw [if_pos z, e12 m (by omega)]; simp only [Option.bind_some]
      rw [if_pos t1, t2]; simp
    · rw [if_neg z]
  have j1 : ∀ b, b = false → laws_FnSeamsHidden.j1 (k + 1 + 1) w (ordR w).1 (ordR w).2 a (uppR a).2 (uppR a).1 b = some true := by
    intro b hbb
    subst hbb
    simp only [laws_FnSeamsHidden.j1, Bool.false_eq_true, if_false]
    by_cases u : (uppR a).2 = 0
    · obtain ⟨o1, o2⟩ := hown u
      rw [if_pos u, e11 (k + 1) (by omega)]; simp only [Option.bind_some]
      rw [if_pos o1, o2]
      simp only [laws_FnSeamsHidden.j2, bne_self_eq_false, Bool.false_eq_true, if_false]
      exact last k (by omega)
    · rw [if_neg u]
      exact last (k + 1) (by omega)
  simp only [laws_FnSeamsHidden.j0, Bool.false_eq_true, if_false]
  by_cases c : (cntR w).2 = 0
  · rw [if_pos c]
    exact j1 _ (hcnt c)
  · rw [if_neg c]
    exact j1 _ rfl

end Go.Proofs.YtfpddpkloplpeaaDoor.Pure
