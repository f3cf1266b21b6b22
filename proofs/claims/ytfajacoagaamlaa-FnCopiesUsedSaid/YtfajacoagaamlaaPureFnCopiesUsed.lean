/- At all drawn states and copies the fewest copies have each damaged part, the share that is not original is that of the parts that are told, and the counts add up to the parts. No condition. -/
import Derived.Test.YtfajacoagaamlaaQFnCopiesUsedx8
import Derived.Test.YtfajacoagaamlaaBase
namespace Go.Proofs.Ytfajacoagaamlaa.Pure
open Go Go.RowKit Go.Proofs.Ytfajacoagaamlaa.QFnCopiesUsed Go.Proofs.YtfajacoagaamlaaW.PrintWords Go.Proofs.YtfajacoagaamlaaW.PrintLast Go.Proofs.YtfajacoagaamlaaW.PrintMore Go.Proofs.Ytfajacoagaamlaa.Base
set_option linter.unusedVariables false
set_option linter.unusedSimpArgs false

/-- From some number of rounds on the answer is r. -/
def Ev {α : Type} (g : Nat → Option α) (r : α) : Prop := ∃ K, ∀ k, K ≤ k → g k = some r
theorem Ev.step {α : Type} {g h : Nat → Option α} {r : α} (e : ∀ k, g (k + 1) = h k) (hr : Ev h r) : Ev g r := by
  obtain ⟨K, hK⟩ := hr
  refine ⟨K + 1, fun k hk => ?_⟩
  obtain ⟨k, rfl⟩ : ∃ m, k = m + 1 := ⟨k - 1, by omega⟩
  rw [e]; exact hK k (by omega)
theorem Ev.now {α : Type} {g : Nat → Option α} {r : α} (e : ∀ k, g (k + 1) = some r) : Ev g r := Ev.step (h := fun _ => some r) e ⟨0, fun _ _ => rfl⟩
theorem Ev.bind {α β : Type} {c : Nat → Option α} {f : Nat → α → Option β} {t : α} {r : β} (hc : Ev c t) (hf : Ev (fun k => f k t) r) : Ev (fun k => (c k).bind (f k)) r := by
  obtain ⟨K, hK⟩ := hc
  obtain ⟨L, hL⟩ := hf
  exact ⟨K + L, fun k hk => by show (c k).bind (f k) = some r; rw [hK k (by omega)]; exact hL k (by omega)⟩
theorem Ev.eq {α : Type} {g h : Nat → Option α} {r : α} (e : ∀ k, g k = h k) (hr : Ev h r) : Ev g r := by
  obtain ⟨K, hK⟩ := hr
  exact ⟨K, fun k hk => by rw [e]; exact hK k hk⟩

theorem gd_ext {α : Type} (z : α) (a l : List α) (h : a.length = l.length) (h2 : ∀ j : Int, 0 ≤ j → j < l.length → a.getD j.toNat z = l.getD j.toNat z) : a = l := by
  apply List.ext_getElem h
  intro n h1 h3
  have := h2 n (by omega) (by omega)
  rw [List.getD_eq_getElem?_getD, List.getD_eq_getElem?_getD, Int.toNat_natCast, List.getElem?_eq_getElem h1, List.getElem?_eq_getElem h3] at this
  exact this
theorem gd_same {α : Type} (z : α) (l : List α) (i : Int) (v : α) (h0 : 0 ≤ i) (h : i < l.length) : (l.set i.toNat v).getD i.toNat z = v := by
  simp [List.getD_eq_getElem?_getD, List.getElem?_set, show i.toNat < l.length by omega]
theorem gd_other {α : Type} (z : α) (l : List α) (i j : Int) (v : α) (h0 : 0 ≤ i) (h1 : 0 ≤ j) (h : i ≠ j) : (l.set i.toNat v).getD j.toNat z = l.getD j.toNat z := by
  simp [List.getD_eq_getElem?_getD, List.getElem?_set, show ¬ i.toNat = j.toNat by omega]
theorem gd_in {α : Type} (z : α) (l : List α) (i : Int) (h0 : 0 ≤ i) (h : i < l.length) : l.getD i.toNat z ∈ l := by
  rw [List.getD_eq_getElem?_getD, List.getElem?_eq_getElem (by omega)]
  exact List.getElem_mem _
theorem gd_map {α β : Type} (z : α) (y : β) (f : α → β) (l : List α) (i : Int) (h0 : 0 ≤ i) (h : i < l.length) : (l.map f).getD i.toNat y = f (l.getD i.toNat z) := by
  rw [List.getD_eq_getElem?_getD, List.getD_eq_getElem?_getD, List.getElem?_map, List.getElem?_eq_getElem (by omega)]
  rfl
theorem size64 {n : Nat} (h : n ≤ maxLen) : (n : Int) ≤ 9223372036854775807 := by
  have e : maxLen = 9223372036854775807 := by decide
  omega

def tot (l : List (List Int)) : Nat := (l.map List.length).sum
theorem tot_cons (x : List Int) (l : List (List Int)) : tot (x :: l) = x.length + tot l := by simp [tot]
theorem tot_mem : ∀ (l : List (List Int)) (x : List Int), x ∈ l → x.length ≤ tot l
  | y :: l, x, h => by
    rw [tot_cons]
    rcases List.mem_cons.1 h with rfl | h
    · omega
    · have := tot_mem l x h; omega
theorem gd_drop {α : Type} (z : α) (l : List α) (i : Int) (h0 : 0 ≤ i) (h : i < l.length) : l.drop i.toNat = l.getD i.toNat z :: l.drop (i + 1).toNat := by
  rw [List.drop_eq_getElem_cons (show i.toNat < l.length by omega), List.getD_eq_getElem?_getD, List.getElem?_eq_getElem (show i.toNat < l.length by omega), show (i + 1).toNat = i.toNat + 1 by omega]; rfl
theorem rdL_drop (l : List (List Int)) (i : Int) (h0 : 0 ≤ i) (h : i < l.length) : l.drop i.toNat = rd_L1 l i :: l.drop (i + 1).toNat := gd_drop [] l i h0 h
theorem rdL_mem (l : List (List Int)) (i : Int) (h0 : 0 ≤ i) (h : i < l.length) : rd_L1 l i ∈ l := by
  have := rdL_drop l i h0 h
  have hm : rd_L1 l i ∈ l.drop i.toNat := by rw [this]; exact List.mem_cons_self
  exact List.mem_of_mem_drop hm

theorem In_ (a b c : Int) : spec_l00In.f a b c = some (decide (b ≤ a ∧ a ≤ c)) := by
  unfold spec_l00In.f
  by_cases h : a ≥ b
  · rw [if_pos h]; simp [show b ≤ a from h]
  · rw [if_neg h]; simp [show ¬ b ≤ a from h]

def okT (l : List Int) : Bool := decide ((l.length : Int) ≤ 40) && l.all fun x => decide (0 ≤ x ∧ x ≤ 3)
theorem okT_says {l : List Int} (h : okT l = true) : l.length ≤ 40 ∧ (∀ x ∈ l, 0 ≤ x ∧ x ≤ 3) ∧ ∀ i : Int, 0 ≤ i → i < l.length → 0 ≤ rd l i ∧ rd l i ≤ 3 := by
  unfold okT at h
  simp only [Bool.and_eq_true, decide_eq_true_eq, List.all_eq_true] at h
  exact ⟨by omega, h.2, fun i h0 h1 => h.2 _ (rd_in l i h0 h1)⟩

theorem specOkT_l (l : List Int) (hl : l.length ≤ 1048576) : ∀ (d k : Nat) (i : Int), (l.length : Int) - i = d → 0 ≤ i → d < k → spec_l22Ok.l0 k l i = some ((l.drop i.toNat).all (fun x => decide (0 ≤ x ∧ x ≤ 3)) && decide ((l.length : Int) ≤ 40)) := by
  intro d
  induction d with
  | zero =>
    intro k i hd h0 hk
    obtain ⟨k, rfl⟩ : ∃ m, k = m + 1 := ⟨k - 1, by omega⟩
    simp only [spec_l22Ok.l0]; rw [if_neg (by omega), List.drop_eq_nil_of_le (by omega)]; simp
  | succ d ih =>
    intro k i hd h0 hk
    obtain ⟨k, rfl⟩ : ∃ m, k = m + 1 := ⟨k - 1, by omega⟩
    simp only [spec_l22Ok.l0]
    rw [if_pos (by omega), if_pos h0, In_, drop_rd l i h0 (by omega), w64 (by omega) (by omega), ih k (i + 1) (by omega) (by omega) (by omega)]
    simp only [Option.bind_some, List.all_cons]
    by_cases c : 0 ≤ rd l i ∧ rd l i ≤ 3
    · simp [c]
    · simp [c]
theorem SpecOkT_ (l : List Int) (hl : l.length ≤ 1048576) (k : Nat) (hk : l.length < k) : spec_l22Ok.f k l = some (okT l) := by
  unfold spec_l22Ok.f okT
  rw [specOkT_l l hl l.length k 0 (by omega) (by omega) hk]
  simp [Bool.and_comm]

theorem ImplOkT_ (l : List Int) : impl_ValidStates.f l = some (okT l) := by
  unfold impl_ValidStates.f impl_allWithin.f okT
  by_cases h2 : (l.length : Int) ≤ 40
  · rw [if_pos h2, decide_eq_true h2]; simp
  · rw [if_neg h2, decide_eq_false h2]; simp

def codeC (s : List Int) (c : List (List Int)) : Int := if okT s = true ∧ c.all okT = true then (if (c.all fun x => decide (x.length = s.length)) = true ∧ c.length ≤ 8 then 0 else 2) else 1
theorem ImplCodeC_ (s : List Int) (c : List (List Int)) : impl_copiesCode.f s c = some (codeC s c) := by
  have hv : vst = okT := by
    funext x
    have := ImplOkT_ x
    unfold vst; rw [this]; rfl
  unfold impl_copiesCode.f codeC impl_check.f
  rw [hv]
  have e : (c.all fun x => decide ((x.length : Int) = (s.length : Int))) = c.all fun x => decide (x.length = s.length) := by
    congr 1; funext x; exact decide_eq_decide.2 (by omega)
  rw [e]
  by_cases h1 : okT s = true <;> by_cases h2 : c.all okT = true <;> by_cases h3 : (c.all fun x => decide (x.length = s.length)) = true <;> by_cases h4 : c.length ≤ 8 <;> simp [h1, h2, h3, h4, show ((c.length : Int) ≤ 8) ↔ c.length ≤ 8 by omega]
theorem specC_1 (s : List Int) (c : List (List Int)) (hn : c.length ≤ 1048576) : ∀ (d : Nat) (i : Int), (c.length : Int) - i = d → 0 ≤ i → Ev (fun k => spec_l22Copies.l1 k s c i) (if ((c.drop i.toNat).all fun x => decide (x.length = s.length)) = true ∧ c.length ≤ 8 then 0 else 2) := by
  intro d
  induction d with
  | zero =>
    intro i hd h0
    refine Ev.now (fun k => ?_)
    simp only [spec_l22Copies.l1]
    rw [if_neg (by omega), List.drop_eq_nil_of_le (by omega)]
    by_cases h : c.length ≤ 8
    · rw [if_neg (by omega), if_pos ⟨by simp, h⟩]
    · rw [if_pos (by omega), if_neg (fun q => h q.2)]
  | succ d ih =>
    intro i hd h0
    rw [rdL_drop c i h0 (by omega), List.all_cons]
    have e : ∀ k, spec_l22Copies.l1 (k + 1) s c i = if (rd_L1 c i).length = s.length then spec_l22Copies.l1 k s c (i + 1) else some 2 := by
      intro k
      simp only [spec_l22Copies.l1]
      rw [if_pos (by omega), if_pos h0, w64 (by omega) (by omega)]
      by_cases q : (rd_L1 c i).length = s.length
      · rw [if_pos (by omega), if_pos q]
      · rw [if_neg (by omega), if_neg q]
    by_cases q : (rd_L1 c i).length = s.length
    · refine Ev.step (h := fun k => spec_l22Copies.l1 k s c (i + 1)) (fun k => by rw [e, if_pos q]) ?_
      rw [decide_eq_true q, Bool.true_and]
      exact ih (i + 1) (by omega) (by omega)
    · refine Ev.now (fun k => ?_)
      rw [e, if_neg q, decide_eq_false q, Bool.false_and, if_neg (by simp)]
theorem specC_0 (s : List Int) (c : List (List Int)) (hn : c.length ≤ 1048576) (ht : tot c ≤ 1048576) : ∀ (d : Nat) (i : Int), (c.length : Int) - i = d → 0 ≤ i → Ev (fun k => spec_l22Copies.l0 k s c i) (if ((c.drop i.toNat).all okT) = true then (if (c.all fun x => decide (x.length = s.length)) = true ∧ c.length ≤ 8 then 0 else 2) else 1) := by
  intro d
  induction d with
  | zero =>
    intro i hd h0
    rw [List.drop_eq_nil_of_le (by omega), if_pos (by simp)]
    refine Ev.step (h := fun k => spec_l22Copies.l1 k s c 0) (fun k => ?_) (specC_1 s c hn c.length 0 (by omega) (by omega))
    simp only [spec_l22Copies.l0]
    rw [if_neg (by omega)]
  | succ d ih =>
    intro i hd h0
    have hx := tot_mem c _ (rdL_mem c i h0 (by omega))
    rw [rdL_drop c i h0 (by omega), List.all_cons]
    have e : ∀ k, spec_l22Copies.l0 (k + 1) s c i = (spec_l22Ok.f k (rd_L1 c i)).bind fun t => if t = true then spec_l22Copies.l0 k s c (i + 1) else some 1 := by
      intro k
      simp only [spec_l22Copies.l0]
      rw [if_pos (by omega), if_pos h0, w64 (by omega) (by omega)]
    refine Ev.step e (Ev.bind (t := okT (rd_L1 c i)) ⟨1048577, fun k hk => SpecOkT_ _ (by omega) k (by omega)⟩ ?_)
    by_cases q : okT (rd_L1 c i) = true
    · rw [q, Bool.true_and]
      exact Ev.eq (fun k => by rw [if_pos rfl]) (ih (i + 1) (by omega) (by omega))
    · refine Ev.eq (h := fun _ => some 1) (fun k => by rw [if_neg q]) ⟨0, fun k _ => ?_⟩
      rw [if_neg (by simp [q])]
theorem SpecCodeC_ (s : List Int) (hs : s.length ≤ 1048576) (c : List (List Int)) (hn : c.length ≤ 1048576) (ht : tot c ≤ 1048576) : Ev (fun k => spec_l22Copies.f k s c) (codeC s c) := by
  refine Ev.eq (h := fun k => (spec_l22Ok.f k s).bind fun t => if t = true then spec_l22Copies.l0 k s c 0 else some 1) (fun k => rfl) (Ev.bind (t := okT s) ⟨1048577, fun k hk => SpecOkT_ s hs k (by omega)⟩ ?_)
  unfold codeC
  by_cases q : okT s = true
  · refine Ev.eq (fun k => by rw [if_pos q]) ?_
    have := specC_0 s c hn ht c.length 0 (by omega) (by omega)
    simp only [Int.toNat_zero, List.drop_zero] at this
    by_cases q2 : c.all okT = true
    · rw [if_pos q2] at this; rw [if_pos ⟨q, q2⟩]; exact this
    · rw [if_neg q2] at this; rw [if_neg (fun h => q2 h.2)]; exact this
  · refine Ev.eq (h := fun _ => some 1) (fun k => by rw [if_neg q]) ⟨0, fun k _ => ?_⟩
    rw [if_neg (fun h => q h.1)]
theorem codeC_0 {s : List Int} {c : List (List Int)} (h : codeC s c = 0) : okT s = true ∧ c.all okT = true ∧ (∀ x ∈ c, x.length = s.length) ∧ c.length ≤ 8 := by
  unfold codeC at h
  by_cases q : okT s = true ∧ c.all okT = true
  · rw [if_pos q] at h
    by_cases q2 : (c.all fun x => decide (x.length = s.length)) = true ∧ c.length ≤ 8
    · exact ⟨q.1, q.2, fun x hx => of_decide_eq_true (List.all_eq_true.1 q2.1 x hx), q2.2⟩
    · rw [if_neg q2] at h; omega
  · rw [if_neg q] at h; omega

theorem i64_and1 (n : Int) : Go.bits .and .i64 n 1 = n % 2 := by
  have h1 : (BitVec.ofInt 64 1).toNat = 2 ^ 1 - 1 := by decide
  have key : (BitVec.ofInt 64 n &&& BitVec.ofInt 64 1).toNat = (n % ((2 ^ 64 : Nat) : Int)).toNat % 2 ^ 1 := by
    rw [BitVec.toNat_and, BitVec.toNat_ofInt, h1, Nat.and_two_pow_sub_one_eq_mod]
  show IntKind.i64.wrap ((BitVec.ofInt 64 n &&& BitVec.ofInt 64 1).toNat : Nat) = n % 2
  rw [key, IntKind.wrap_i64]
  omega
theorem u64_small (j : Int) (h0 : 0 ≤ j) (h1 : j < 64) : IntKind.u64.wrap j = j := by
  simp [IntKind.wrap, IntKind.bits, IntKind.signed]; omega
theorem shr_ (x : Int) (j : Nat) (h : j < 64) : shr .i64 x (IntKind.u64.wrap (j : Int)) = x / 2 ^ j := by
  rw [u64_small _ (by omega) (by omega)]
  unfold shr
  rw [Int.toNat_natCast, show min j IntKind.i64.bits = j from Nat.min_eq_left (by show j ≤ 64; omega)]
theorem half_pow (x : Int) (j : Nat) : x / 2 ^ j / 2 = x / 2 ^ (j + 1) := by
  rw [Int.pow_succ, Int.ediv_ediv_of_nonneg (Int.le_of_lt (Int.pow_pos (by omega)))]
/-- The elements of a set of bits. -/
def mems : Nat → Int → Int → List Int
  | 0, _, _ => []
  | d + 1, x, k => if x % 2 = 1 then k :: mems d (x / 2) (k + 1) else mems d (x / 2) (k + 1)
theorem mems_zero : ∀ (d : Nat) (k : Int), mems d 0 k = []
  | 0, _ => rfl
  | d + 1, k => by unfold mems; rw [if_neg (by omega), show (0 : Int) / 2 = 0 by omega]; exact mems_zero d (k + 1)
theorem mems_len : ∀ (d : Nat) (x k : Int), (mems d x k).length ≤ d
  | 0, _, _ => Nat.le_refl _
  | d + 1, x, k => by
    have := mems_len d (x / 2) (k + 1)
    unfold mems; split <;> simp <;> omega
theorem mems_in : ∀ (d : Nat) (x k y : Int), y ∈ mems d x k → k ≤ y ∧ y < k + d
  | 0, _, _, y, h => by simp [mems] at h
  | d + 1, x, k, y, h => by
    unfold mems at h
    split at h
    · rcases List.mem_cons.1 h with rfl | h
      · omega
      · have := mems_in d _ _ _ h; omega
    · have := mems_in d _ _ _ h; omega
theorem implMembers_ : ∀ (d : Nat) (x k : Int) (a : List Int), 0 ≤ x → x < 2 ^ d → a.length + d ≤ 100 → 0 ≤ k → k + d ≤ 100 → Ev (fun K => impl_members.l0 K x a k) (a ++ mems d x k) := by
  intro d
  induction d with
  | zero =>
    intro x k a h0 h1 ha hk0 hk1
    have : x = 0 := by simp at h1; omega
    subst this
    refine Ev.now (fun K => ?_)
    simp only [impl_members.l0]
    rw [if_neg (by omega)]; simp [mems]
  | succ d ih =>
    intro x k a h0 h1 ha hk0 hk1
    rw [Int.pow_succ] at h1
    by_cases c : x > 0
    · have e : ∀ K, impl_members.l0 (K + 1) x a k = if x % 2 = 1 then impl_members.l0 K (x / 2) (a ++ [k]) (k + 1) else impl_members.l0 K (x / 2) a (k + 1) := by
        intro K
        simp only [impl_members.l0]
        rw [if_pos c, i64_and1, w64 (n := k + 1) (by omega) (by omega)]
        by_cases q : x % 2 = 1
        · rw [if_pos q, if_pos q, if_pos (by omega)]
        · rw [if_neg q, if_neg q]
      by_cases q : x % 2 = 1
      · refine Ev.step (fun K => by rw [e, if_pos q]) ?_
        have := ih (x / 2) (k + 1) (a ++ [k]) (by omega) (by omega) (by simp; omega) (by omega) (by omega)
        rw [List.append_assoc] at this
        unfold mems; rw [if_pos q]; exact this
      · refine Ev.step (fun K => by rw [e, if_neg q]) ?_
        unfold mems; rw [if_neg q]
        exact ih (x / 2) (k + 1) a (by omega) (by omega) (by omega) (by omega) (by omega)
    · have : x = 0 := by omega
      subst this
      refine Ev.now (fun K => ?_)
      simp only [impl_members.l0]
      rw [if_neg (by omega), mems_zero]; simp
theorem ImplMembers_ (n : Nat) (hn : n ≤ 8) (x : Int) (h0 : 0 ≤ x) (h1 : x < 2 ^ n) : Ev (fun K => impl_members.f K x) (mems n x 0) := by
  have := implMembers_ n x 0 [] h0 h1 (by simp; omega) (by omega) (by omega)
  simp only [List.nil_append] at this
  exact this
section
variable (s : List Int) (c : List (List Int)) (hs : s.length ≤ 40) (hc : c.length ≤ 8) (hl : ∀ x ∈ c, x.length = s.length)
include hs hc hl in
theorem covers_1 (x i : Int) (i0 : 0 ≤ i) (i1 : i < s.length) (r : Bool) : ∀ (d j : Nat) (b : Bool), c.length - j = d → j ≤ c.length → ((b || (mems d (x / 2 ^ j) (j : Int)).any fun k => decide (rd (rd_L1 c k) i = 0)) = true → Ev (fun k => spec_l22Covers.l0 k s c x (i + 1)) r) → ((b || (mems d (x / 2 ^ j) (j : Int)).any fun k => decide (rd (rd_L1 c k) i = 0)) = false → r = false) → Ev (fun k => spec_l22Covers.l1 k s c x i b (j : Int)) r := by
  intro d
  induction d with
  | zero =>
    intro j b hd hj h1 h2
    simp only [mems, List.any_nil, Bool.or_false] at h1 h2
    cases b with
    | true =>
      refine Ev.step (fun k => ?_) (h1 rfl)
      simp only [spec_l22Covers.l1]
      rw [if_neg (by omega), w64 (n := i + 1) (by omega) (by omega)]; rfl
    | false =>
      have := h2 rfl
      subst this
      refine Ev.now (fun k => ?_)
      simp only [spec_l22Covers.l1]
      rw [if_neg (by omega)]; rfl
  | succ d ih =>
    intro j b hd hj h1 h2
    have hll := hl _ (rdL_mem c (j : Int) (by omega) (by omega))
    have e : ∀ k, spec_l22Covers.l1 (k + 1) s c x i b (j : Int) = if x / 2 ^ j % 2 = 1 then (if rd (rd_L1 c (j : Int)) i = 0 then spec_l22Covers.l1 k s c x i true ((j + 1 : Nat) : Int) else spec_l22Covers.l1 k s c x i b ((j + 1 : Nat) : Int)) else spec_l22Covers.l1 k s c x i b ((j + 1 : Nat) : Int) := by
      intro k
      simp only [spec_l22Covers.l1]
      rw [if_pos (by omega), shr_ x j (by omega), i64_and1, u64_small _ (by omega) (by omega), if_pos (by omega), w64 (n := (j : Int) + 1) (by omega) (by omega)]
      by_cases q : x / 2 ^ j % 2 = 1
      · rw [if_pos q, if_pos q, if_pos (by omega), if_pos i0, if_pos (by omega)]; rfl
      · rw [if_neg q, if_neg q]; rfl
    unfold mems at h1 h2
    rw [half_pow] at h1 h2
    by_cases q : x / 2 ^ j % 2 = 1
    · rw [if_pos q, List.any_cons] at h1 h2
      by_cases z : rd (rd_L1 c (j : Int)) i = 0
      · rw [decide_eq_true z] at h1 h2
        refine Ev.step (fun k => by rw [e, if_pos q, if_pos z]) (ih (j + 1) true (by omega) (by omega) (fun h => h1 (by simp)) (fun h => by simp at h))
      · rw [decide_eq_false z, Bool.false_or] at h1 h2
        exact Ev.step (fun k => by rw [e, if_pos q, if_neg z]) (ih (j + 1) b (by omega) (by omega) h1 h2)
    · rw [if_neg q] at h1 h2
      exact Ev.step (fun k => by rw [e, if_neg q]) (ih (j + 1) b (by omega) (by omega) h1 h2)
include hs hc hl in
theorem covers_0 (x : Int) : ∀ (d : Nat) (i : Nat), s.length - i = d → i ≤ s.length → ∀ r : Bool, (r = true ↔ ∀ j : Nat, i ≤ j → j < s.length → lacks s c (mems c.length x 0) j = false) → Ev (fun k => spec_l22Covers.l0 k s c x (i : Int)) r := by
  intro d
  induction d with
  | zero =>
    intro i hd hi r hr
    have : r = true := hr.2 (fun j h1 h2 => by omega)
    subst this
    refine Ev.now (fun k => ?_)
    simp only [spec_l22Covers.l0]
    rw [if_neg (by omega)]
  | succ d ih =>
    intro i hd hi r hr
    refine Ev.step (h := fun k => spec_l22Covers.l1 k s c x (i : Int) (rd s (i : Int) != 1) ((0 : Nat) : Int)) (fun k => ?_) (covers_1 s c hs hc hl x (i : Int) (by omega) (by omega) r c.length 0 _ rfl (by omega) (fun h => ?_) (fun h => ?_))
    · simp only [spec_l22Covers.l0]
      rw [if_pos (by omega), if_pos (by omega)]; rfl
    · have hla : lacks s c (mems c.length x 0) i = false := by
        unfold lacks
        simp only [Int.pow_zero, Int.ediv_one] at h
        rw [Bool.or_eq_true] at h
        rcases h with h | h
        · rw [decide_eq_false (by simpa using h), Bool.false_and]
        · rw [show (mems c.length x 0).any (fun k => decide (rd (rd_L1 c k) (i : Int) = 0)) = true from h]; simp
      refine ih (i + 1) (by omega) (by omega) r (hr.trans ⟨fun g j g1 g2 => g j (by omega) g2, fun g j g1 g2 => ?_⟩)
      by_cases e : j = i
      · subst e; exact hla
      · exact g j (by omega) g2
    · cases r with
      | false => rfl
      | true =>
        have h3 := hr.1 rfl i (Nat.le_refl _) (by omega)
        unfold lacks at h3
        simp only [Int.pow_zero, Int.ediv_one] at h
        rw [Bool.or_eq_false_iff] at h
        rw [show (mems c.length x 0).any (fun k => decide (rd (rd_L1 c k) (i : Int) = 0)) = false from h.2] at h3
        rw [decide_eq_true (by simpa using h.1)] at h3
        simp at h3
def enoB (s : List Int) (c : List (List Int)) (ch : List Int) : Bool := (List.range s.length).all fun i => !lacks s c ch i
theorem enoB_iff (s : List Int) (c : List (List Int)) (ch : List Int) : enoB s c ch = true ↔ ∀ j : Nat, 0 ≤ j → j < s.length → lacks s c ch j = false := by
  unfold enoB
  rw [List.all_eq_true]
  constructor
  · intro h j _ h2
    have := h j (List.mem_range.2 h2)
    simpa using this
  · intro h j hj
    rw [h j (by omega) (List.mem_range.1 hj)]; rfl
include hs hc hl in
theorem SpecCovers_ (x : Int) : Ev (fun k => spec_l22Covers.f k s c x) (enoB s c (mems c.length x 0)) :=
  covers_0 s c hs hc hl x s.length 0 rfl (by omega) _ (enoB_iff s c _)
include hl in
theorem ImplEnough_ (x : Int) : impl_isEnough.f s c (mems c.length x 0) = some (enoB s c (mems c.length x 0)) := by
  unfold impl_isEnough.f
  rw [if_pos ⟨fun y hy => by have := mems_in _ _ _ _ hy; omega, fun y hy => by have := hl y hy; omega⟩]; rfl
end
/-- Is the one ahead of the other, from place i on? -/
def lexB (a b : List Int) : Nat → Int → Bool
  | 0, _ => false
  | d + 1, i => if rd a i = rd b i then lexB a b d (i + 1) else decide (rd a i < rd b i)
def lessB (a b : List Int) : Bool := if a.length = b.length then lexB a b a.length 0 else decide (a.length < b.length)
theorem specLess_l (a b : List Int) (hab : a.length = b.length) (ha : a.length ≤ 100) : ∀ (d : Nat) (i : Int), (a.length : Int) - i = d → 0 ≤ i → Ev (fun k => spec_l22Less.l0 k a b i) (lexB a b d i) := by
  intro d
  induction d with
  | zero =>
    intro i hd h0
    refine Ev.now (fun k => ?_)
    simp only [spec_l22Less.l0]
    rw [if_neg (by omega)]; rfl
  | succ d ih =>
    intro i hd h0
    have e : ∀ k, spec_l22Less.l0 (k + 1) a b i = if rd a i = rd b i then spec_l22Less.l0 k a b (i + 1) else some (decide (rd a i < rd b i)) := by
      intro k
      simp only [spec_l22Less.l0]
      rw [if_pos (by omega), if_pos h0, if_pos (by omega), w64 (by omega) (by omega)]
    unfold lexB
    by_cases q : rd a i = rd b i
    · rw [if_pos q]
      exact Ev.step (fun k => by rw [e, if_pos q]) (ih (i + 1) (by omega) (by omega))
    · rw [if_neg q]
      exact Ev.now (fun k => by rw [e, if_neg q])
theorem SpecLess_ (a b : List Int) (ha : a.length ≤ 100) (hb : b.length ≤ 100) : Ev (fun k => spec_l22Less.f k a b) (lessB a b) := by
  unfold lessB
  by_cases q : a.length = b.length
  · rw [if_pos q]
    refine Ev.eq (fun k => ?_) (specLess_l a b q ha a.length 0 (by omega) (by omega))
    unfold spec_l22Less.f
    rw [if_pos (by omega)]
  · rw [if_neg q]
    refine ⟨0, fun k _ => ?_⟩
    show spec_l22Less.f k a b = _
    unfold spec_l22Less.f
    rw [if_neg (by omega)]
    congr 1
    exact decide_eq_decide.2 (by omega)
theorem cmp_ (x y : Int) : cmp_Compare_int64.f x y = some (if x < y then -1 else if x > y then 1 else 0) := by
  simp only [cmp_Compare_int64.f, cmp_isNaN_int64.f, Option.bind_some, bne_self_eq_false, Bool.false_eq_true, if_false]
  by_cases h : x < y
  · rw [if_pos h, if_pos h]
  · rw [if_neg h, if_neg h]
    by_cases g : x > y
    · rw [if_pos g, if_pos g]
    · rw [if_neg g, if_neg g]
theorem compare_l (a b : List Int) (hab : a.length = b.length) (ha : a.length ≤ 100) : ∀ (d : Nat) (i : Int), (a.length : Int) - i = d → 0 ≤ i → ∃ t : Int, (t < 0 ↔ lexB a b d i = true) ∧ Ev (fun k => slices_Compare_int64_int64.l0 k a b a (a.length : Int) i) t := by
  intro d
  induction d with
  | zero =>
    intro i hd h0
    refine ⟨0, by simp [lexB], Ev.now (fun k => ?_)⟩
    simp only [slices_Compare_int64_int64.l0]
    rw [if_neg (by omega), if_neg (by omega)]
  | succ d ih =>
    intro i hd h0
    have e : ∀ k, slices_Compare_int64_int64.l0 (k + 1) a b a (a.length : Int) i = if (if rd a i < rd b i then (-1 : Int) else if rd a i > rd b i then 1 else 0) = 0 then slices_Compare_int64_int64.l0 k a b a (a.length : Int) (i + 1) else some (if rd a i < rd b i then -1 else if rd a i > rd b i then 1 else 0) := by
      intro k
      simp only [slices_Compare_int64_int64.l0]
      rw [if_pos (by omega), if_pos h0, if_pos (by omega), if_neg (by omega), if_pos (by omega), cmp_, w64 (by omega) (by omega)]
      simp only [Option.bind_some]
    unfold lexB
    by_cases q : rd a i = rd b i
    · rw [if_pos q]
      obtain ⟨t, h1, h2⟩ := ih (i + 1) (by omega) (by omega)
      refine ⟨t, h1, Ev.step (fun k => ?_) h2⟩
      rw [e, if_neg (show ¬ rd a i < rd b i by omega), if_neg (show ¬ rd a i > rd b i by omega), if_pos rfl]
    · rw [if_neg q]
      by_cases z : rd a i < rd b i
      · refine ⟨-1, by simp [z], Ev.now (fun k => ?_)⟩
        rw [e, if_pos z, if_neg (by omega)]
      · refine ⟨1, by simp [z], Ev.now (fun k => ?_)⟩
        rw [e, if_neg z, if_pos (show rd a i > rd b i by omega), if_neg (by omega)]
def betterB (ch : List Int) : Option (List Int) → Bool
  | none => true
  | some y => lessB ch y
theorem Ahead_ (ch : List Int) (hch : ch.length ≤ 100) : ∀ b : Option (List Int), Ev (fun k => aheadOf k ch b) (betterB ch b)
  | none => ⟨0, fun k _ => rfl⟩
  | some y => by
    show Ev _ (lessB ch y)
    unfold lessB
    by_cases h1 : (ch.length : Int) < (y.length : Int)
    · refine ⟨0, fun k _ => ?_⟩
      show aheadOf k ch (some y) = _
      simp only [aheadOf]
      rw [if_pos h1, if_neg (by omega), decide_eq_true (by omega)]
    · by_cases h2 : ch.length = y.length
      · obtain ⟨t, ht, K, hK⟩ := compare_l ch y h2 hch ch.length 0 (by omega) (by omega)
        refine ⟨K, fun k hk => ?_⟩
        show aheadOf k ch (some y) = _
        simp only [aheadOf]
        rw [if_neg h1, if_pos (by omega), show slices_Compare_int64_int64.f k ch y = some t from hK k hk, if_pos h2]
        show some (decide (t < 0)) = _
        congr 1
        by_cases g : lexB ch y ch.length 0 = true
        · rw [g]; exact decide_eq_true (ht.2 g)
        · rw [Bool.not_eq_true _ |>.mp g]; exact decide_eq_false (fun q => g (ht.1 q))
      · refine ⟨0, fun k _ => ?_⟩
        show aheadOf k ch (some y) = _
        simp only [aheadOf]
        rw [if_neg h1, if_neg (by omega), if_neg h2, decide_eq_false (by omega)]
/-- The best of the sets from x on, with what was best before. -/
def bst (s : List Int) (c : List (List Int)) : Nat → Int → Option (List Int) → Option (List Int)
  | 0, _, b => b
  | d + 1, x, b => if enoB s c (mems c.length x 0) = true then bst s c d (x + 1) (if betterB (mems c.length x 0) b = true then some (mems c.length x 0) else b) else bst s c d (x + 1) b
theorem bst_len (s : List Int) (c : List (List Int)) : ∀ (d : Nat) (x : Int) (b : Option (List Int)), (∀ y, b = some y → y.length ≤ c.length) → ∀ y, bst s c d x b = some y → y.length ≤ c.length
  | 0, _, b, hb, y, h => hb y h
  | d + 1, x, b, hb, y, h => by
    unfold bst at h
    have hm := mems_len c.length x 0
    split at h
    · refine bst_len s c d (x + 1) _ (fun z hz => ?_) y h
      split at hz
      · obtain rfl := Option.some.inj hz; exact hm
      · exact hb z hz
    · exact bst_len s c d (x + 1) b hb y h
section
variable (s : List Int) (c : List (List Int)) (hs : s.length ≤ 40) (hc : c.length ≤ 8) (hl : ∀ x ∈ c, x.length = s.length)
include hc hl in
theorem implBest_ : ∀ (d : Nat) (x : Int) (b : Option (List Int)), 0 ≤ x → x + d = 2 ^ c.length → Ev (fun k => fcl k s c d x b) (bst s c d x b) := by
  intro d
  induction d with
  | zero => intro x b h0 h1; exact ⟨0, fun k _ => rfl⟩
  | succ d ih =>
    intro x b h0 h1
    have hm := mems_len c.length x 0
    refine Ev.eq (h := fun k => (impl_members.f k x).bind fun ch => (impl_isEnough.f s c ch).bind fun e => if e = true then (aheadOf k ch b).bind fun q => fcl k s c d (x + 1) (if q = true then some ch else b) else fcl k s c d (x + 1) b) (fun k => rfl) (Ev.bind (ImplMembers_ c.length hc x h0 (by omega)) ?_)
    unfold bst
    by_cases q : enoB s c (mems c.length x 0) = true
    · rw [if_pos q]
      refine Ev.eq (h := fun k => (aheadOf k (mems c.length x 0) b).bind fun q => fcl k s c d (x + 1) (if q = true then some (mems c.length x 0) else b)) (fun k => ?_) (Ev.bind (Ahead_ _ (by omega) b) (ih (x + 1) _ (by omega) (by omega)))
      rw [ImplEnough_ s c hl x, q]; rfl
    · rw [if_neg q]
      refine Ev.eq (h := fun k => fcl k s c d (x + 1) b) (fun k => ?_) (ih (x + 1) b (by omega) (by omega))
      rw [ImplEnough_ s c hl x]
      show (if enoB s c (mems c.length x 0) = true then _ else _) = _
      rw [if_neg q]
def resF : Option (List Int) → List Int × Int
  | none => ([], 3)
  | some y => (y, 0)
include hc in
theorem specBest_1 (x : Int) (best : List Int) (f : Bool) (r : List Int × Int) : ∀ (d j : Nat) (a : List Int), c.length - j = d → j ≤ c.length → a.length ≤ j → (Ev (fun k => if f = true then ((spec_l22Less.f k (a ++ mems d (x / 2 ^ j) (j : Int)) best).bind fun t147 => (if t147 = true then (spec_FewestCopies.l0 k s c (a ++ mems d (x / 2 ^ j) (j : Int)) true (wrap64 (x + 1))) else (spec_FewestCopies.l0 k s c best f (wrap64 (x + 1))))) else (spec_FewestCopies.l0 k s c (a ++ mems d (x / 2 ^ j) (j : Int)) true (wrap64 (x + 1)))) r) → Ev (fun k => spec_FewestCopies.l1 k s c best f x a (j : Int)) r := by
  intro d
  induction d with
  | zero =>
    intro j a hd hj ha hr
    simp only [mems, List.append_nil] at hr
    refine Ev.step (fun k => ?_) hr
    simp only [spec_FewestCopies.l1]
    rw [if_neg (by omega)]
  | succ d ih =>
    intro j a hd hj ha hr
    have e : ∀ k, spec_FewestCopies.l1 (k + 1) s c best f x a (j : Int) = if x / 2 ^ j % 2 = 1 then spec_FewestCopies.l1 k s c best f x (a ++ [(j : Int)]) ((j + 1 : Nat) : Int) else spec_FewestCopies.l1 k s c best f x a ((j + 1 : Nat) : Int) := by
      intro k
      simp only [spec_FewestCopies.l1]
      rw [if_pos (by omega), shr_ x j (by omega), i64_and1, u64_small _ (by omega) (by omega), if_pos (by omega), w64 (n := (j : Int) + 1) (by omega) (by omega)]
      by_cases q : x / 2 ^ j % 2 = 1
      · rw [if_pos q, if_pos q, if_pos (by omega)]; rfl
      · rw [if_neg q, if_neg q]; rfl
    unfold mems at hr
    rw [half_pow] at hr
    by_cases q : x / 2 ^ j % 2 = 1
    · rw [if_pos q] at hr
      refine Ev.step (fun k => by rw [e, if_pos q]) (ih (j + 1) (a ++ [(j : Int)]) (by omega) (by omega) (by simp; omega) ?_)
      rw [List.append_assoc]
      exact hr
    · rw [if_neg q] at hr
      exact Ev.step (fun k => by rw [e, if_neg q]) (ih (j + 1) a (by omega) (by omega) (by omega) hr)
include hc in
theorem shl_ : shl .i64 1 (IntKind.u64.wrap (c.length : Int)) = 2 ^ c.length := by
  rw [u64_small _ (by omega) (by omega)]
  unfold shl
  rw [Int.toNat_natCast, show min c.length IntKind.i64.bits = c.length from Nat.min_eq_left (by show c.length ≤ 64; omega), Int.one_mul]
  have h : (2 : Nat) ^ c.length ≤ 2 ^ 8 := Nat.pow_le_pow_right (by omega) hc
  have e : ((2 : Int) ^ c.length) = ((2 ^ c.length : Nat) : Int) := by simp
  rw [e, IntKind.wrap_i64]
  generalize (2 : Nat) ^ c.length = p at h ⊢
  omega
include hs hc hl in
theorem specBest_0 : ∀ (d : Nat) (x : Int) (b : Option (List Int)), 0 ≤ x → x + d = 2 ^ c.length → (∀ y, b = some y → y.length ≤ c.length) → Ev (fun k => spec_FewestCopies.l0 k s c (b.getD []) b.isSome x) (resF (bst s c d x b)) := by
  have hp : (2 : Int) ^ c.length ≤ 256 := by
    have h : (2 : Nat) ^ c.length ≤ 2 ^ 8 := Nat.pow_le_pow_right (by omega) hc
    have e : ((2 : Int) ^ c.length) = ((2 ^ c.length : Nat) : Int) := by simp
    rw [e]; omega
  intro d
  induction d with
  | zero =>
    intro x b h0 h1 hb
    refine Ev.now (fun k => ?_)
    simp only [spec_FewestCopies.l0]
    rw [shl_ c hc, u64_small _ (by omega) (by omega), if_pos (by omega), if_neg (by omega)]
    cases b <;> rfl
  | succ d ih =>
    intro x b h0 h1 hb
    have hm := mems_len c.length x 0
    have hx : wrap64 (x + 1) = x + 1 := w64 (by omega) (by omega)
    have e : ∀ k, spec_FewestCopies.l0 (k + 1) s c (b.getD []) b.isSome x = (spec_l22Covers.f k s c x).bind fun t => if t = true then spec_FewestCopies.l1 k s c (b.getD []) b.isSome x [] 0 else spec_FewestCopies.l0 k s c (b.getD []) b.isSome (x + 1) := by
      intro k
      simp only [spec_FewestCopies.l0]
      rw [shl_ c hc, u64_small _ (by omega) (by omega), if_pos (by omega), if_pos (by omega), hx]
    refine Ev.step e (Ev.bind (SpecCovers_ s c hs hc hl x) ?_)
    unfold bst
    by_cases q : enoB s c (mems c.length x 0) = true
    · rw [if_pos q]
      refine Ev.eq (h := fun k => spec_FewestCopies.l1 k s c (b.getD []) b.isSome x [] ((0 : Nat) : Int)) (fun k => if_pos q) (specBest_1 s c hc x _ _ _ c.length 0 [] rfl (by omega) (by simp) ?_)
      simp only [Int.pow_zero, Int.ediv_one, List.nil_append, hx]
      cases b with
      | none => exact ih (x + 1) (some (mems c.length x 0)) (by omega) (by omega) (fun y hy => by obtain rfl := Option.some.inj hy; exact hm)
      | some y =>
        have hy := hb y rfl
        refine Ev.eq (h := fun k => (spec_l22Less.f k (mems c.length x 0) y).bind fun t => if t = true then spec_FewestCopies.l0 k s c (mems c.length x 0) true (x + 1) else spec_FewestCopies.l0 k s c y true (x + 1)) (fun k => rfl) (Ev.bind (SpecLess_ _ y (by omega) (by omega)) ?_)
        show Ev _ (resF (bst s c d (x + 1) (if lessB (mems c.length x 0) y = true then _ else _)))
        by_cases z : lessB (mems c.length x 0) y = true
        · rw [if_pos z]
          exact Ev.eq (fun k => if_pos z) (ih (x + 1) (some (mems c.length x 0)) (by omega) (by omega) (fun y hy => by obtain rfl := Option.some.inj hy; exact hm))
        · rw [if_neg z]
          exact Ev.eq (fun k => if_neg z) (ih (x + 1) (some y) (by omega) (by omega) (fun y hy => hb y hy))
    · rw [if_neg q]
      exact Ev.eq (fun k => if_neg q) (ih (x + 1) b (by omega) (by omega) hb)
end
def fewR (s : List Int) (c : List (List Int)) : List Int × Int := if codeC s c = 0 then resF (bst s c (2 ^ c.length) 0 none) else ([], codeC s c)
theorem fewR_len (s : List Int) (c : List (List Int)) : (fewR s c).1.length ≤ 8 := by
  unfold fewR
  by_cases q : codeC s c = 0
  · obtain ⟨_, _, _, o4⟩ := codeC_0 q
    rw [if_pos q]
    have := bst_len s c (2 ^ c.length) 0 none (fun y hy => by cases hy)
    cases h : bst s c (2 ^ c.length) 0 none with
    | none => simp [resF]
    | some y => have := this y h; show y.length ≤ 8; omega
  · rw [if_neg q]; simp
theorem SpecFewest_ (s : List Int) (hs : s.length ≤ 1048576) (c : List (List Int)) (hn : c.length ≤ 1048576) (ht : tot c ≤ 1048576) : Ev (fun k => spec_FewestCopies.f k s c) (fewR s c) := by
  refine Ev.eq (h := fun k => (spec_l22Copies.f k s c).bind fun t => if t = 0 then spec_FewestCopies.l0 k s c [] false 0 else some ([], t)) (fun k => rfl) (Ev.bind (SpecCodeC_ s hs c hn ht) ?_)
  unfold fewR
  by_cases q : codeC s c = 0
  · obtain ⟨o1, o2, o3, o4⟩ := codeC_0 q
    rw [if_pos q]
    exact Ev.eq (fun k => if_pos q) (specBest_0 s c (okT_says o1).1 o4 o3 (2 ^ c.length) 0 none (by omega) (by simp) (fun y hy => by cases hy))
  · rw [if_neg q]
    exact ⟨0, fun k _ => if_neg q⟩
theorem ImplFewest_ (s : List Int) (c : List (List Int)) : Ev (fun k => impl_FewestCopies.f k s c) (fewR s c) := by
  refine Ev.eq (h := fun k => if codeC s c = 0 then (if c.length ≤ 20 then (fcl k s c (2 ^ c.length) 0 none).bind fun b => match b with | none => some (([] : List Int), (3 : Int)) | some y => some (y, 0) else none) else some (([] : List Int), codeC s c)) (fun k => by unfold impl_FewestCopies.f; rw [ImplCodeC_]; rfl) ?_
  unfold fewR
  by_cases q : codeC s c = 0
  · obtain ⟨o1, o2, o3, o4⟩ := codeC_0 q
    rw [if_pos q]
    refine Ev.eq (h := fun k => (fcl k s c (2 ^ c.length) 0 none).bind fun b => some (resF b)) (fun k => ?_) (Ev.bind (implBest_ s c o4 o3 (2 ^ c.length) 0 none (by omega) (by simp)) ⟨0, fun k _ => rfl⟩)
    rw [if_pos q, if_pos (by omega)]
    congr 1
    funext b
    cases b <;> rfl
  · rw [if_neg q]
    exact ⟨0, fun k _ => if_neg q⟩

theorem rd_mem (l : List Int) (i : Int) (h0 : 0 ≤ i) (h : i < l.length) : rd l i ∈ l := by
  unfold rd
  rw [List.getD_eq_getElem?_getD, List.getElem?_eq_getElem (by omega)]
  exact List.getElem_mem _
theorem u64_range (n : Int) : 0 ≤ IntKind.u64.wrap n ∧ IntKind.u64.wrap n < 18446744073709551616 := by
  have e : IntKind.u64.wrap n = n % 18446744073709551616 := by simp [IntKind.wrap, IntKind.bits, IntKind.signed]
  rw [e]; omega
theorem low_byte (n : Int) : 0 ≤ Go.bits .and .u64 (IntKind.u64.wrap n / 1099511627776) 255 ∧ Go.bits .and .u64 (IntKind.u64.wrap n / 1099511627776) 255 ≤ 255 := by
  have h := u64_range n
  have e : Go.bits .and .u64 (IntKind.u64.wrap n / 1099511627776) 255 = (IntKind.u64.wrap n / 1099511627776) % 256 :=
    Go.bits_mask .u64 64 (by decide) (fun m g0 g1 => by
      have e : IntKind.u64.wrap m = m % 18446744073709551616 := by simp [IntKind.wrap, IntKind.bits, IntKind.signed]
      have : (2 : Int) ^ 64 = 18446744073709551616 := by decide
      rw [e]; omega) 8 (by decide) _ (by omega) (by have : (2 : Int) ^ 64 = 18446744073709551616 := by decide
                                                    omega)
  rw [e]; omega
theorem low_byte_w (n : Int) : 0 ≤ wrap64 (Go.bits .and .u64 (IntKind.u64.wrap n / 1099511627776) 255) ∧ wrap64 (Go.bits .and .u64 (IntKind.u64.wrap n / 1099511627776) 255) ≤ 255 := by
  have h := low_byte n
  rw [w64 (by omega) (by omega)]; exact h
theorem Next_ (l : List Int) (hl : ∀ x ∈ l, 0 ≤ x ∧ x ≤ 255) (a s : Int) (h0 : 0 ≤ a) (h1 : a ≤ 1152921504606846976) : ∃ v s', spec_l00Src_next.f l a s = some (v, a + 1, s') ∧ 0 ≤ v ∧ v ≤ 255 := by
  unfold spec_l00Src_next.f
  have hw : wrap64 (a + 1) = a + 1 := w64 (by omega) (by omega)
  by_cases c : a < (l.length : Int)
  · have hb := hl _ (rd_mem l a h0 c)
    rw [if_pos c, if_pos h0, hw, if_pos (by omega)]
    exact ⟨_, _, rfl, by rw [w64 (by omega) (by omega)]; omega, by rw [w64 (by omega) (by omega)]; omega⟩
  · rw [if_neg c, hw, if_neg (by omega)]
    exact ⟨_, _, rfl, (low_byte_w _).1, (low_byte_w _).2⟩

theorem Pick_ (l : List Int) (hl : ∀ x ∈ l, 0 ≤ x ∧ x ≤ 255) (a s n : Int) (h0 : 0 ≤ a) (h1 : a ≤ 1000000000000) : ∃ v a' s', spec_l00Src_pick.f l a s n = some (v, a', s') ∧ a ≤ a' ∧ a' ≤ a + 2 ∧ 0 ≤ v ∧ v ≤ 65535 ∧ (1 ≤ n → v < n) ∧ (n ≤ 1 → v = 0) := by
  unfold spec_l00Src_pick.f
  by_cases c : n ≤ 1
  · rw [if_pos c]; exact ⟨0, a, s, rfl, by omega, by omega, by omega, by omega, by omega, by omega⟩
  · obtain ⟨v, s', hv, v0, v1⟩ := Next_ l hl a s h0 (by omega)
    rw [if_neg c, hv]; simp only [Option.bind_some]
    by_cases d : n > 200
    · obtain ⟨u, s2, hu, u0, u1⟩ := Next_ l hl (a + 1) s' (by omega) (by omega)
      rw [if_pos d, hu]; simp only [Option.bind_some]
      rw [if_neg (by omega), w64 (n := v * 256) (by omega) (by omega), w64 (n := v * 256 + u) (by omega) (by omega), tmod_eq _ _ (by omega), if_pos (by omega)]
      have g0 := Int.emod_nonneg (v * 256 + u) (b := n) (by omega)
      have g1 := Int.emod_lt_of_pos (v * 256 + u) (b := n) (by omega)
      have g2 := Int.mul_ediv_add_emod (v * 256 + u) n
      have g3 := Int.mul_nonneg (show 0 ≤ n by omega) (Int.ediv_nonneg (show 0 ≤ v * 256 + u by omega) (show 0 ≤ n by omega))
      exact ⟨_, _, _, rfl, by omega, by omega, g0, by omega, fun _ => g1, fun _ => by omega⟩
    · rw [if_neg d, if_neg (by omega), tmod_eq _ _ (by omega), if_pos (by omega)]
      have g0 := Int.emod_nonneg v (b := n) (by omega)
      have g1 := Int.emod_lt_of_pos v (b := n) (by omega)
      exact ⟨_, _, _, rfl, by omega, by omega, g0, by omega, fun _ => g1, fun _ => by omega⟩

theorem One_ (l : List Int) (hl : ∀ x ∈ l, 0 ≤ x ∧ x ≤ 255) (a s n : Int) (h0 : 0 ≤ a) (h1 : a ≤ 1000000000000) : ∃ b a' s', spec_l00Src_one.f l a s n = some (b, a', s') ∧ a ≤ a' ∧ a' ≤ a + 2 := by
  unfold spec_l00Src_one.f
  obtain ⟨v, a', s', h, g1, g2, _⟩ := Pick_ l hl a s n h0 h1
  rw [h]; exact ⟨_, _, _, rfl, g1, g2⟩

theorem Among_ (l : List Int) (hl : ∀ x ∈ l, 0 ≤ x ∧ x ≤ 255) (a s : Int) (xs : List Int) (hx : 0 < xs.length) (h0 : 0 ≤ a) (h1 : a ≤ 1000000000000) : ∃ v a' s', spec_l00Src_among.f l a s xs = some (v, a', s') ∧ a ≤ a' ∧ a' ≤ a + 2 ∧ v ∈ xs := by
  unfold spec_l00Src_among.f
  obtain ⟨v, a', s', h, g1, g2, g3, g4, g5, g6⟩ := Pick_ l hl a s xs.length h0 h1
  have := g5 (by omega)
  rw [h]; simp only [Option.bind_some]
  rw [if_pos g3, if_pos this]
  exact ⟨_, _, _, rfl, g1, g2, rd_mem _ _ g3 this⟩

theorem Max_ (a b : Int) : spec_l00Max.f a b = some (mx a b) := by
  unfold spec_l00Max.f mx
  by_cases h : a > b
  · rw [if_pos h, if_neg (by omega)]
  · rw [if_neg h]; by_cases h2 : a < b
    · rw [if_pos h2]
    · rw [if_neg h2, show a = b by omega]

/-- From some number of rounds on there is an answer, one that is as told. -/
def EvP {α : Type} (g : Nat → Option α) (Q : α → Prop) : Prop := ∃ r, Q r ∧ Ev g r
theorem EvP.step {α : Type} {g h : Nat → Option α} {Q : α → Prop} (e : ∀ k, g (k + 1) = h k) (hr : EvP h Q) : EvP g Q := by
  obtain ⟨r, hq, hr⟩ := hr
  exact ⟨r, hq, Ev.step e hr⟩
theorem EvP.eq {α : Type} {g h : Nat → Option α} {Q : α → Prop} (e : ∀ k, g k = h k) (hr : EvP h Q) : EvP g Q := by
  obtain ⟨r, hq, hr⟩ := hr
  exact ⟨r, hq, Ev.eq e hr⟩
theorem EvP.bind {α β : Type} {c : Nat → Option α} {f : Nat → α → Option β} {P : α → Prop} {Q : β → Prop} (hc : EvP c P) (hf : ∀ t, P t → EvP (fun k => f k t) Q) : EvP (fun k => (c k).bind (f k)) Q := by
  obtain ⟨t, hp, hc⟩ := hc
  obtain ⟨r, hq, hr⟩ := hf t hp
  exact ⟨r, hq, Ev.bind hc hr⟩

theorem New_l (l : List Int) (hl : ∀ x ∈ l, 0 ≤ x ∧ x ≤ 255) : ∀ (d : Nat) (n a s : Int) (R : List Int), n.toNat = d → n ≤ 1000 → R.length + d ≤ 1000 → 0 ≤ a → a + 2 * d ≤ 100000000000 → EvP (fun k => spec_l22New.l0 k R n l a s) (fun r => r.1.length = R.length + d ∧ a ≤ r.2.1 ∧ r.2.1 ≤ a + 2 * d) := by
  intro d
  induction d with
  | zero =>
    intro n a s R hd hn hR h0 h1
    refine ⟨(R, a, s), ⟨rfl, Int.le_refl _, by show a ≤ a + 2 * ((0 : Nat) : Int); omega⟩, Ev.now (fun k => ?_)⟩
    simp only [spec_l22New.l0]
    rw [if_neg (by omega)]
  | succ d ih =>
    intro n a s R hd hn hR h0 h1
    obtain ⟨v, a', s', hv, g1, g2, g3, g4, g5, g6⟩ := Pick_ l hl a s 6 h0 (by omega)
    refine EvP.step (h := fun k => spec_l22New.l0 k (R ++ [mx 0 (v - 2)]) (n - 1) l a' s') (fun k => ?_) ?_
    · simp only [spec_l22New.l0]
      rw [if_pos (by omega), hv]; simp only [Option.bind_some]
      rw [w64 (n := v - 2) (by omega) (by omega), Max_]; simp only [Option.bind_some]
      rw [if_pos (by omega), w64 (n := n - 1) (by omega) (by omega)]
    · obtain ⟨r, ⟨r1, r2, r3⟩, r4⟩ := ih (n - 1) a' s' (R ++ [mx 0 (v - 2)]) (by omega) (by omega) (by simp; omega) (by omega) (by omega)
      exact ⟨r, ⟨by rw [r1]; simp; omega, by omega, by omega⟩, r4⟩
theorem New_ (l : List Int) (hl : ∀ x ∈ l, 0 ≤ x ∧ x ≤ 255) (n a s : Int) (hn : n ≤ 1000) (h0 : 0 ≤ a) (h1 : a ≤ 10000000000) : EvP (fun k => spec_l22New.f k l a s n) (fun r => r.1.length = n.toNat ∧ a ≤ r.2.1 ∧ r.2.1 ≤ a + 2000) := by
  obtain ⟨r, ⟨r1, r2, r3⟩, r4⟩ := New_l l hl n.toNat n a s [] rfl hn (by simp; omega) h0 (by omega)
  exact ⟨r, ⟨by rw [r1]; simp, r2, by omega⟩, r4⟩
theorem Draw22_j1 (l : List Int) (hl : ∀ x ∈ l, 0 ≤ x ∧ x ≤ 255) (n a s : Int) (R : List Int) (b : Bool) (hb : b = true → 0 < n) (hR : R.length = n.toNat) (hn : n ≤ 41) (h0 : 0 ≤ a) (h1 : a ≤ 10000000000) : EvP (fun k => spec_l22Draw.j1 k n R b l a s) (fun r => r.1.length ≤ 41 ∧ a ≤ r.2.1 ∧ r.2.1 ≤ a + 4) := by
  cases b with
  | false => exact ⟨(R, a, s), ⟨by show R.length ≤ 41; omega, Int.le_refl _, by show a ≤ a + 4; omega⟩, Ev.now (fun k => rfl)⟩
  | true =>
    have := hb rfl
    obtain ⟨v, a', s', hv, g1, g2, g3, g4, g5, g6⟩ := Pick_ l hl a s n h0 (by omega)
    obtain ⟨u, a2, s2, hu, q1, q2, _⟩ := Among_ l hl a' s' [-1, 0, 3, 4, -9223372036854775808] (by simp) (by omega) (by omega)
    have := g5 (by omega)
    refine ⟨(R.set v.toNat u, a2, s2), ⟨by simp; omega, by show a ≤ a2; omega, by show a2 ≤ a + 4; omega⟩, Ev.now (fun k => ?_)⟩
    simp only [spec_l22Draw.j1, if_true]
    rw [hv]; simp only [Option.bind_some]
    rw [hu]; simp only [Option.bind_some]
    rw [if_pos g3, if_pos (by omega)]
theorem Draw22_j0 (l : List Int) (hl : ∀ x ∈ l, 0 ≤ x ∧ x ≤ 255) (n a s : Int) (hn : n ≤ 41) (h0 : 0 ≤ a) (h1 : a ≤ 1000000000) : EvP (fun k => spec_l22Draw.j0 k n l a s) (fun r => r.1.length ≤ 41 ∧ a ≤ r.2.1 ∧ r.2.1 ≤ a + 3000) := by
  obtain ⟨r, ⟨r1, r2, r3⟩, r4⟩ := New_ l hl n a s (by omega) h0 (by omega)
  by_cases c : n > 0
  · obtain ⟨b, a', s', hb, g1, g2⟩ := One_ l hl r.2.1 r.2.2 12 (by omega) (by omega)
    obtain ⟨R, ⟨q1, q2, q3⟩, q4⟩ := Draw22_j1 l hl n a' s' r.1 b (fun _ => c) r1 hn (by omega) (by omega)
    refine ⟨R, ⟨q1, by omega, by omega⟩, Ev.step (h := fun k => (spec_l22New.f k l a s n).bind fun bt228 => (if n > 0 then ((spec_l00Src_one.f l bt228.2.1 bt228.2.2 12).bind fun bt233 => (spec_l22Draw.j1 k n bt228.1 bt233.1 l bt233.2.1 bt233.2.2)) else (spec_l22Draw.j1 k n bt228.1 false l bt228.2.1 bt228.2.2))) (fun k => rfl) (Ev.bind r4 (Ev.eq (fun k => ?_) q4))⟩
    rw [if_pos c, hb]; rfl
  · obtain ⟨R, ⟨q1, q2, q3⟩, q4⟩ := Draw22_j1 l hl n r.2.1 r.2.2 r.1 false (fun h => by cases h) r1 hn (by omega) (by omega)
    refine ⟨R, ⟨q1, by omega, by omega⟩, Ev.step (h := fun k => (spec_l22New.f k l a s n).bind fun bt228 => (if n > 0 then ((spec_l00Src_one.f l bt228.2.1 bt228.2.2 12).bind fun bt233 => (spec_l22Draw.j1 k n bt228.1 bt233.1 l bt233.2.1 bt233.2.2)) else (spec_l22Draw.j1 k n bt228.1 false l bt228.2.1 bt228.2.2))) (fun k => rfl) (Ev.bind r4 (Ev.eq (fun k => ?_) q4))⟩
    rw [if_neg c]
theorem Draw22_ (l : List Int) (hl : ∀ x ∈ l, 0 ≤ x ∧ x ≤ 255) (a s : Int) (h0 : 0 ≤ a) (h1 : a ≤ 100000000) : EvP (fun k => spec_l22Draw.f k l a s) (fun r => r.1.length ≤ 41 ∧ a ≤ r.2.1 ∧ r.2.1 ≤ a + 4000) := by
  obtain ⟨v, a', s', hv, g1, g2, g3, g4, g5, g6⟩ := Pick_ l hl a s 9 h0 (by omega)
  obtain ⟨b, a2, s2, hb, q1, q2⟩ := One_ l hl a' s' 20 (by omega) (by omega)
  have := g5 (by omega)
  cases b with
  | false =>
    obtain ⟨R, ⟨r1, r2, r3⟩, r4⟩ := Draw22_j0 l hl v a2 s2 (by omega) (by omega) (by omega)
    refine ⟨R, ⟨r1, by omega, by omega⟩, Ev.eq (fun k => ?_) r4⟩
    unfold spec_l22Draw.f
    rw [hv]; simp only [Option.bind_some]
    rw [hb]; rfl
  | true =>
    obtain ⟨u, a3, s3, hu, p1, p2, p3, p4, p5, p6⟩ := Pick_ l hl a2 s2 2 (by omega) (by omega)
    have := p5 (by omega)
    obtain ⟨R, ⟨r1, r2, r3⟩, r4⟩ := Draw22_j0 l hl (40 + u) a3 s3 (by omega) (by omega) (by omega)
    refine ⟨R, ⟨r1, by omega, by omega⟩, Ev.eq (fun k => ?_) r4⟩
    unfold spec_l22Draw.f
    rw [hv]; simp only [Option.bind_some]
    rw [hb]; simp only [Option.bind_some, if_true]
    rw [hu]; simp only [Option.bind_some]
    rw [w64 (n := 40 + u) (by omega) (by omega)]
theorem DrawCopies_l (l : List Int) (hl : ∀ x ∈ l, 0 ≤ x ∧ x ≤ 255) (st : List Int) (hst : st.length ≤ 41) (n : Int) (hn : n ≤ 9) : ∀ (d : Nat) (m a s : Int) (c : List (List Int)), m.toNat = d → m ≤ n → c.length + d = n.toNat → (∀ x ∈ c, x.length = st.length) → 0 ≤ a → a + 2000 * d ≤ 10000000 → EvP (fun k => spec_l22DrawCopies.l0 k st c n m l a s) (fun r => r.1 = st ∧ r.2.length ≤ 9 ∧ ∀ x ∈ r.2, x.length ≤ 42) := by
  intro d
  induction d with
  | zero =>
    intro m a s c hd hm hc hx h0 h1
    have hcl : c.length ≤ 9 := by omega
    have hxs : ∀ x ∈ c, x.length ≤ 42 := fun x h => by have := hx x h; omega
    by_cases z : n > 0
    · obtain ⟨v, a', s', hv, g1, g2, g3, g4, g5, g6⟩ := Pick_ l hl a s 16 h0 (by omega)
      have hr0 := rdL_mem c 0 (by omega) (by omega)
      have hl0 := hx _ hr0
      have hset : ∀ y : List Int, y.length ≤ 42 → ∀ x ∈ c.set (0 : Int).toNat y, x.length ≤ 42 := fun y hy x h => by
        rcases List.mem_or_eq_of_mem_set h with h | h
        · exact hxs x h
        · rw [h]; exact hy
      by_cases z0 : v = 0
      · refine ⟨(st, c.set (0 : Int).toNat (rd_L1 c 0 ++ [0])), ⟨rfl, by simp; omega, hset _ (by simp; omega)⟩, Ev.now (fun k => ?_)⟩
        simp only [spec_l22DrawCopies.l0]
        rw [if_neg (by omega), if_pos z, hv]; simp only [Option.bind_some]
        rw [if_pos z0, if_pos (by omega), if_pos (by omega)]
      · by_cases z1 : v = 1
        · obtain ⟨R, ⟨r1, r2, r3⟩, r4⟩ := Draw22_ l hl a' s' (by omega) (by omega)
          refine ⟨(st, c.set (0 : Int).toNat R.1), ⟨rfl, by simp; omega, hset _ (by omega)⟩, Ev.step (h := fun k => (spec_l22Draw.f k l a' s').bind fun t => some (st, c.set (0 : Int).toNat t.1)) (fun k => ?_) (Ev.bind r4 ⟨0, fun k _ => rfl⟩)⟩
          simp only [spec_l22DrawCopies.l0]
          rw [if_neg (by omega), if_pos z, hv]; simp only [Option.bind_some]
          rw [if_neg z0, if_pos z1]
          congr 1; funext t
          rw [if_pos (by omega)]
        · refine ⟨(st, c), ⟨rfl, hcl, hxs⟩, Ev.now (fun k => ?_)⟩
          simp only [spec_l22DrawCopies.l0]
          rw [if_neg (by omega), if_pos z, hv]; simp only [Option.bind_some]
          rw [if_neg z0, if_neg z1]
    · refine ⟨(st, c), ⟨rfl, hcl, hxs⟩, Ev.now (fun k => ?_)⟩
      simp only [spec_l22DrawCopies.l0]
      rw [if_neg (by omega), if_neg z]
  | succ d ih =>
    intro m a s c hd hm hc hx h0 h1
    obtain ⟨r, ⟨r1, r2, r3⟩, r4⟩ := New_ l hl (st.length : Int) a s (by omega) h0 (by omega)
    obtain ⟨R, p1, p2⟩ := ih (m - 1) r.2.1 r.2.2 (c ++ [r.1]) (by omega) (by omega) (by simp; omega) (fun x h => by
      rcases List.mem_append.1 h with h | h
      · exact hx x h
      · rw [List.mem_singleton.1 h, r1]; omega) (by omega) (by omega)
    refine ⟨R, p1, Ev.step (h := fun k => (spec_l22New.f k l a s (st.length : Int)).bind fun t => spec_l22DrawCopies.l0 k st (c ++ [t.1]) n (m - 1) l t.2.1 t.2.2) (fun k => ?_) (Ev.bind r4 p2)⟩
    simp only [spec_l22DrawCopies.l0]
    rw [if_pos (by omega), w64 (n := m - 1) (by omega) (by omega)]
    congr 1; funext t
    rw [if_pos (by omega)]
theorem DrawCopies_ (l : List Int) (hl : ∀ x ∈ l, 0 ≤ x ∧ x ≤ 255) : EvP (fun k => spec_l22DrawCopies.f k l) (fun r => r.1.length ≤ 41 ∧ r.2.length ≤ 9 ∧ ∀ x ∈ r.2, x.length ≤ 42) := by
  obtain ⟨D, ⟨d1, d2, d3⟩, d4⟩ := Draw22_ l hl 0 0 (by omega) (by omega)
  obtain ⟨v, a', s', hv, g1, g2, g3, g4, g5, g6⟩ := Pick_ l hl D.2.1 D.2.2 5 (by omega) (by omega)
  obtain ⟨b, a2, s2, hb, q1, q2⟩ := One_ l hl a' s' 20 (by omega) (by omega)
  have := g5 (by omega)
  have fin : ∀ n a s : Int, n ≤ 9 → 0 ≤ a → a ≤ 100000 → EvP (fun k => spec_l22DrawCopies.j0 k D.1 [] n l a s) (fun r => r.1.length ≤ 41 ∧ r.2.length ≤ 9 ∧ ∀ x ∈ r.2, x.length ≤ 42) := fun n a s hn h0 h1 => by
    obtain ⟨R, ⟨p1, p2, p3⟩, p4⟩ := DrawCopies_l l hl D.1 d1 n hn n.toNat n a s [] rfl (Int.le_refl _) (by simp) (fun x h => by cases h) h0 (by omega)
    exact ⟨R, ⟨by rw [p1]; exact d1, p2, p3⟩, Ev.step (fun k => rfl) p4⟩
  cases b with
  | false =>
    obtain ⟨R, p1, p2⟩ := fin v a2 s2 (by omega) (by omega) (by omega)
    refine ⟨R, p1, Ev.eq (h := fun k => (spec_l22Draw.f k l 0 0).bind fun bt251 => ((spec_l00Src_pick.f l bt251.2.1 bt251.2.2 5).bind fun bt259 => ((spec_l00Src_one.f l bt259.2.1 bt259.2.2 20).bind fun bt262 => (if bt262.1 = true then ((spec_l00Src_pick.f l bt262.2.1 bt262.2.2 2).bind fun bt265 => (spec_l22DrawCopies.j0 k bt251.1 [] (wrap64 (8 + bt265.1)) l bt265.2.1 bt265.2.2)) else (spec_l22DrawCopies.j0 k bt251.1 [] bt259.1 l bt262.2.1 bt262.2.2))))) (fun k => rfl) (Ev.bind d4 (Ev.eq (fun k => ?_) p2))⟩
    rw [hv]; simp only [Option.bind_some]
    rw [hb]; rfl
  | true =>
    obtain ⟨u, a3, s3, hu, p1, p2, p3, p4, p5, p6⟩ := Pick_ l hl a2 s2 2 (by omega) (by omega)
    have := p5 (by omega)
    obtain ⟨R, p1, p2⟩ := fin (8 + u) a3 s3 (by omega) (by omega) (by omega)
    refine ⟨R, p1, Ev.eq (h := fun k => (spec_l22Draw.f k l 0 0).bind fun bt251 => ((spec_l00Src_pick.f l bt251.2.1 bt251.2.2 5).bind fun bt259 => ((spec_l00Src_one.f l bt259.2.1 bt259.2.2 20).bind fun bt262 => (if bt262.1 = true then ((spec_l00Src_pick.f l bt262.2.1 bt262.2.2 2).bind fun bt265 => (spec_l22DrawCopies.j0 k bt251.1 [] (wrap64 (8 + bt265.1)) l bt265.2.1 bt265.2.2)) else (spec_l22DrawCopies.j0 k bt251.1 [] bt259.1 l bt262.2.1 bt262.2.2))))) (fun k => rfl) (Ev.bind d4 (Ev.eq (fun k => ?_) p2))⟩
    rw [hv]; simp only [Option.bind_some]
    rw [hb]; simp only [Option.bind_some, if_true]
    rw [hu]; simp only [Option.bind_some]
    rw [w64 (n := 8 + u) (by omega) (by omega)]

/-- How often each of four numbers stands in a list. -/
def cnt4 (l : List Int) : List Int := from_ (fun v => ((l.count v : Nat) : Int)) 0 4
theorem rd_cnt4 (l : List Int) (v : Int) (h0 : 0 ≤ v) (h : v < 4) : rd (cnt4 l) v = (l.count v : Nat) := by
  unfold cnt4; rw [rd_from _ _ _ h0 (by omega)]
theorem cnt4_len (l : List Int) : (cnt4 l).length = 4 := by unfold cnt4; rw [from_len]
theorem cnt4_step (l : List Int) (x : Int) (h0 : 0 ≤ x) (h : x ≤ 3) : (cnt4 l).set x.toNat (rd (cnt4 l) x + 1) = cnt4 (l ++ [x]) := by
  apply rd_ext
  · rw [List.length_set, cnt4_len, cnt4_len]
  · intro j j0 j1
    rw [cnt4_len] at j1
    rw [rd_cnt4 (l ++ [x]) j j0 (by omega), List.count_append]
    by_cases e : j = x
    · subst e
      rw [rd_same _ _ _ h0 (by rw [cnt4_len]; omega), rd_cnt4 l j j0 (by omega)]; simp
    · rw [rd_other _ _ _ _ h0 j0 (by omega), rd_cnt4 l j j0 (by omega)]; simp [show ¬ x = j by omega]
theorem take_rd (l : List Int) (i : Int) (h0 : 0 ≤ i) (h : i < l.length) : l.take (i + 1).toNat = l.take i.toNat ++ [rd l i] := by
  rw [show (i + 1).toNat = i.toNat + 1 by omega, List.take_succ_eq_append_getElem (by omega)]
  unfold rd
  rw [List.getD_eq_getElem?_getD, List.getElem?_eq_getElem (by omega)]; rfl
theorem cnt4_nil : List.replicate 4 (0 : Int) = cnt4 [] := by decide

theorem rd_app (a : Int) (l : List Int) (i : Int) (h0 : 0 ≤ i) : rd (a :: l) (i + 1) = rd l i := by
  unfold rd
  rw [show (i + 1).toNat = i.toNat + 1 by omega]; rfl
theorem f6sum4_ (x y z w : Int) (k : Nat) (hk : 10 ≤ k) (hx : 0 ≤ x ∧ x ≤ 1000) (hy : 0 ≤ y ∧ y ≤ 1000) (hz : 0 ≤ z ∧ z ≤ 1000) (hw : 0 ≤ w ∧ w ≤ 1000) : laws_f6sum.f k [x, y, z, w] = some (x + y + z + w) := by
  obtain ⟨k, rfl⟩ : ∃ m, k = m + 1 + 1 + 1 + 1 + 1 := ⟨k - 5, by omega⟩
  have r0 : rd [x, y, z, w] 0 = x := rfl
  have r1 : rd [x, y, z, w] 1 = y := rfl
  have r2 : rd [x, y, z, w] 2 = z := rfl
  have r3 : rd [x, y, z, w] 3 = w := rfl
  have hl : (([x, y, z, w] : List Int).length : Int) = 4 := rfl
  unfold laws_f6sum.f
  simp only [laws_f6sum.l0]
  rw [if_pos (by omega), if_pos (by omega), r0, w64 (n := 0 + x) (by omega) (by omega), w64 (n := (0 : Int) + 1) (by omega) (by omega), if_pos (by omega), if_pos (by omega), show (0 : Int) + 1 = 1 by omega, r1, w64 (n := 0 + x + y) (by omega) (by omega), w64 (n := (1 : Int) + 1) (by omega) (by omega), show (1 : Int) + 1 = 2 by omega, if_pos (by omega), if_pos (by omega), r2, w64 (n := 0 + x + y + z) (by omega) (by omega), w64 (n := (2 : Int) + 1) (by omega) (by omega), show (2 : Int) + 1 = 3 by omega, if_pos (by omega), if_pos (by omega), r3, w64 (n := 0 + x + y + z + w) (by omega) (by omega), w64 (n := (3 : Int) + 1) (by omega) (by omega), if_neg (by omega)]
  congr 1; omega
theorem cnt4_is (l : List Int) : cnt4 l = [((l.count 0 : Nat) : Int), ((l.count 1 : Nat) : Int), ((l.count 2 : Nat) : Int), ((l.count 3 : Nat) : Int)] := rfl
theorem cnt4_sum : ∀ l : List Int, (∀ x ∈ l, 0 ≤ x ∧ x ≤ 3) → l.count 0 + l.count 1 + l.count 2 + l.count 3 = l.length
  | [], _ => rfl
  | x :: l, h => by
    have ih := cnt4_sum l (fun y hy => h y (List.mem_cons_of_mem _ hy))
    have hx := h x List.mem_cons_self
    rw [List.count_cons, List.count_cons, List.count_cons, List.count_cons, List.length_cons]
    have : x = 0 ∨ x = 1 ∨ x = 2 ∨ x = 3 := by omega
    rcases this with rfl | rfl | rfl | rfl <;> simp <;> omega

theorem specCounts_l (g : List Int) (hg : okT g = true) : ∀ (d k : Nat) (i : Int), (g.length : Int) - i = d → 0 ≤ i → d < k → spec_l22Counts.l0 k g (cnt4 (g.take i.toNat)) i = some (cnt4 g) := by
  obtain ⟨g1, g2, g3⟩ := okT_says hg
  intro d
  induction d with
  | zero =>
    intro k i hd h0 hk
    obtain ⟨k, rfl⟩ : ∃ m, k = m + 1 := ⟨k - 1, by omega⟩
    simp only [spec_l22Counts.l0]; rw [if_neg (by omega), List.take_of_length_le (by omega)]
  | succ d ih =>
    intro k i hd h0 hk
    obtain ⟨k, rfl⟩ : ∃ m, k = m + 1 := ⟨k - 1, by omega⟩
    have hx := g3 i h0 (by omega)
    have hc : ((List.count (rd g i) (g.take i.toNat) : Nat) : Int) ≤ 40 := by
      have := List.count_le_length (a := rd g i) (l := g.take i.toNat)
      have := List.length_take_le i.toNat g
      have : (g.take i.toNat).length ≤ g.length := by rw [List.length_take]; omega
      omega
    simp only [spec_l22Counts.l0]
    rw [if_pos (by omega), if_pos h0, if_pos hx.1, if_pos (by rw [cnt4_len]; omega), w64 (n := i + 1) (by omega) (by omega), w64 (n := rd (cnt4 (g.take i.toNat)) (rd g i) + 1) (by rw [rd_cnt4 _ _ hx.1 (by omega)]; omega) (by rw [rd_cnt4 _ _ hx.1 (by omega)]; omega), cnt4_step _ _ hx.1 hx.2, ← take_rd g i h0 (by omega)]
    exact ih k (i + 1) (by omega) (by omega) (by omega)
theorem SpecCounts_ (g : List Int) (hg : okT g = true) (k : Nat) (hk : 50 ≤ k) : spec_l22Counts.f k g = some (cnt4 g) := by
  have := okT_says hg
  unfold spec_l22Counts.f
  rw [if_pos (by omega), cnt4_nil]
  exact specCounts_l g hg g.length k 0 (by omega) (by omega) (by omega)

theorem gcd_l : ∀ (n k : Nat) (a b : Int), 0 ≤ a → 0 ≤ b → b ≤ n → n < k → ∃ g, spec_l00Gcd.l0 k a b = some g ∧ 0 ≤ g ∧ g ∣ a ∧ g ∣ b ∧ (0 < a ∨ 0 < b → 0 < g)
  | n, k, a, b, ha, hb, hn, hk => by
    obtain ⟨k, rfl⟩ : ∃ m, k = m + 1 := ⟨k - 1, by omega⟩
    simp only [spec_l00Gcd.l0]
    by_cases c : b = 0
    · rw [if_pos c]; subst c; exact ⟨a, rfl, ha, Int.dvd_refl a, Int.dvd_zero a, fun h => by omega⟩
    · rw [if_neg c, tmod_eq _ _ (by omega), if_pos ha]
      have h0 := Int.emod_nonneg a (b := b) c
      have h1 := Int.emod_lt_of_pos a (b := b) (by omega)
      obtain ⟨n, rfl⟩ : ∃ m, n = m + 1 := ⟨n - 1, by omega⟩
      obtain ⟨g, hg, g0, g1, g2, g3⟩ := gcd_l n k b (a % b) hb h0 (by omega) (by omega)
      refine ⟨g, hg, g0, ?_, g1, fun _ => g3 (.inl (by omega))⟩
      have e := Int.mul_ediv_add_emod a b
      rw [← e]
      exact Int.dvd_add (Int.dvd_trans g1 (Int.dvd_mul_right b _)) g2

theorem Size_ (a : Int) (ha : -9223372036854775807 ≤ a) (ha2 : a ≤ 9223372036854775807) : spec_l00Size.f a = some (ab a) := by
  unfold spec_l00Size.f ab
  by_cases h : a < 0
  · rw [if_pos h, if_pos h, w64 (by omega) (by omega)]
  · rw [if_neg h, if_neg h]

/-- A fraction in lowest terms. -/
theorem SpecMake_ (n d : Int) (hn : 0 ≤ n) (hd : 0 < d) (hn2 : n ≤ 100) (hd2 : d ≤ 100) : ∃ g, 0 < g ∧ g ∣ n ∧ g ∣ d ∧ ∀ k, 200 ≤ k → spec_l02Make.f k n d = some (n / g, d / g) := by
  obtain ⟨g, hg, g0, g1, g2, g3⟩ := gcd_l 100 101 n d hn (by omega) (by omega) (by omega)
  refine ⟨g, g3 (.inr hd), g1, g2, fun k hk => ?_⟩
  have hg' : spec_l00Gcd.f k n d = some g := at_rounds (g := fun k => spec_l00Gcd.l0 k n d) (fun k => spec_l00Gcd.mono_l k _ _) (by omega : 101 ≤ k) hg
  unfold spec_l02Make.f
  have b1 := ediv_bounds n g 100 (g3 (.inr hd)) (by omega) (by omega) (by omega)
  have b2 := ediv_bounds d g 100 (g3 (.inr hd)) (by omega) (by omega) (by omega)
  rw [Size_ _ (by omega) (by omega)]; simp only [Option.bind_some]
  rw [show ab n = n by unfold ab; rw [if_neg (by omega)], hg']; simp only [Option.bind_some]
  rw [if_neg (by have := g3 (.inr hd); omega), Int.tdiv_eq_ediv_of_nonneg hn, Int.tdiv_eq_ediv_of_nonneg (by omega), w64 (by omega) (by omega), w64 (by omega) (by omega)]

/-- The places from i on whose number is not 0. -/
def nors (g : List Int) : Nat → Int → List Int
  | 0, _ => []
  | d + 1, i => if rd g i = 0 then nors g d (i + 1) else i :: nors g d (i + 1)
theorem nors_len (g : List Int) : ∀ (d : Nat) (i : Int), (nors g d i).length ≤ d
  | 0, _ => Nat.le_refl _
  | d + 1, i => by
    have := nors_len g d (i + 1)
    simp only [nors]; split
    · omega
    · simp; omega
theorem nors_count (g : List Int) : ∀ (d : Nat) (i : Int), (g.length : Int) - i = d → 0 ≤ i → ((nors g d i).length : Int) = d - ((g.drop i.toNat).count 0 : Nat)
  | 0, i, hd, h0 => by simp [nors, List.drop_eq_nil_of_le (show g.length ≤ i.toNat by omega)]
  | d + 1, i, hd, h0 => by
    have ih := nors_count g d (i + 1) (by omega) (by omega)
    rw [drop_rd g i h0 (by omega), List.count_cons]
    simp only [nors]
    by_cases c : rd g i = 0
    · rw [if_pos c]; simp [c]; omega
    · rw [if_neg c]; simp [c]; omega
theorem nors_mem (g : List Int) : ∀ (d : Nat) (i j : Int), j ∈ nors g d i ↔ i ≤ j ∧ j < i + d ∧ rd g j ≠ 0
  | 0, i, j => by simp [nors]; omega
  | d + 1, i, j => by
    have h := nors_mem g d (i + 1) j
    simp only [nors]
    by_cases c : rd g i = 0
    · rw [if_pos c, h]
      constructor
      · rintro ⟨a, b, c⟩; exact ⟨by omega, by omega, c⟩
      · rintro ⟨a, b, d⟩
        by_cases e : j = i
        · subst e; exact absurd c d
        · exact ⟨by omega, by omega, d⟩
    · rw [if_neg c, List.mem_cons, h]
      constructor
      · rintro (rfl | ⟨a, b, c⟩)
        · exact ⟨by omega, by omega, c⟩
        · exact ⟨by omega, by omega, c⟩
      · rintro ⟨a, b, c⟩
        by_cases e : j = i
        · exact .inl e
        · exact .inr ⟨by omega, by omega, c⟩

theorem share_num (g : List Int) (h : okT g = true) : ((g.length : Int) - rd (cnt4 g) 0) = (nors g g.length 0).length := by
  rw [rd_cnt4 g 0 (by omega) (by omega), nors_count g g.length 0 (by omega) (by omega)]; simp
theorem SpecShare_ (g : List Int) (hl : g.length ≤ 1048576) : ∃ r, (∀ k, 1048700 ≤ k → spec_ShareNotOriginal.f k g = some r) ∧ (okT g = true → 0 < g.length → ∃ q, 0 < q ∧ q ∣ ((nors g g.length 0).length : Int) ∧ q ∣ (g.length : Int) ∧ r = (((nors g g.length 0).length : Int) / q, (g.length : Int) / q, 0)) ∧ (r.2.2 = 0 → okT g = true ∧ 0 < g.length) := by
  by_cases h : okT g = true
  · obtain ⟨g1, g2, g3⟩ := okT_says h
    by_cases z : (g.length : Int) = 0
    · refine ⟨(0, 0, 3), fun k hk => ?_, fun _ hp => by omega, fun h => by simp at h⟩
      unfold spec_ShareNotOriginal.f
      rw [SpecOkT_ g hl k (by omega)]; simp only [Option.bind_some]
      rw [if_pos h, if_pos z]
    · have hb := nors_len g g.length 0
      obtain ⟨q, q0, q1, q2, q3⟩ := SpecMake_ ((nors g g.length 0).length) g.length (by omega) (by omega) (by omega) (by omega)
      refine ⟨_, fun k hk => ?_, fun _ _ => ⟨q, q0, q1, q2, rfl⟩, fun _ => ⟨h, by omega⟩⟩
      unfold spec_ShareNotOriginal.f
      rw [SpecOkT_ g hl k (by omega)]; simp only [Option.bind_some]
      rw [if_pos h, if_neg z, SpecCounts_ g h k (by omega)]; simp only [Option.bind_some]
      rw [if_pos (by rw [cnt4_len]; omega), share_num g h, w64 (by omega) (by omega), q3 k (by omega)]; rfl
  · refine ⟨(0, 0, 1), fun k hk => ?_, fun h2 => absurd h2 h, fun h => by simp at h⟩
    unfold spec_ShareNotOriginal.f
    rw [SpecOkT_ g hl k (by omega)]; simp only [Option.bind_some]
    rw [if_neg h]

theorem implNors_l (g : List Int) (hg : g.length ≤ 40) : ∀ (d k : Nat) (i : Int) (a : List Int), (g.length : Int) - i = d → 0 ≤ i → (a.length : Int) ≤ i → d < k → impl_notOriginal.l0 k a g g.length i = some (a ++ nors g d i) := by
  intro d
  induction d with
  | zero =>
    intro k i a hd h0 ha hk
    obtain ⟨k, rfl⟩ : ∃ m, k = m + 1 := ⟨k - 1, by omega⟩
    simp only [impl_notOriginal.l0]; rw [if_neg (by omega)]; simp [nors]
  | succ d ih =>
    intro k i a hd h0 ha hk
    obtain ⟨k, rfl⟩ : ∃ m, k = m + 1 := ⟨k - 1, by omega⟩
    simp only [impl_notOriginal.l0, nors]
    rw [if_pos (by omega), if_pos h0, if_pos (by omega), w64 (by omega) (by omega)]
    by_cases c : rd g i = 0
    · rw [if_pos c, if_pos c, ih k (i + 1) _ (by omega) (by omega) (by omega) (by omega)]
    · rw [if_neg c, if_neg c, if_pos (by omega), ih k (i + 1) _ (by omega) (by omega) (by simp; omega) (by omega)]; simp
theorem implNors_ (g : List Int) (hg : g.length ≤ 40) (k : Nat) (hk : 50 ≤ k) : impl_notOriginal.f k g = some (nors g g.length 0) := by
  unfold impl_notOriginal.f
  rw [implNors_l g hg g.length k 0 [] (by omega) (by omega) (by simp) (by omega)]; simp

theorem absolute_ (a : Int) (ha : -9223372036854775807 ≤ a) (ha2 : a ≤ 9223372036854775807) : impl_absolute.f a = some (ab a) := by
  unfold impl_absolute.f ab mx
  rw [w64 (n := -a) (by omega) (by omega)]
  by_cases h : a < 0
  · rw [if_pos h, if_pos (by omega)]
  · rw [if_neg h, if_neg (by omega)]

theorem implFraction_l : ∀ (k : Nat) (x y a b : Int), impl_fraction.l0 k x y a b = (spec_l00Gcd.l0 k a b).bind fun g => if g = 0 then none else some (wrap64 (Int.tdiv x g), wrap64 (Int.tdiv y g))
  | 0, _, _, _, _ => rfl
  | k + 1, x, y, a, b => by
    simp only [impl_fraction.l0, spec_l00Gcd.l0]
    by_cases c : b = 0
    · rw [if_pos c, if_pos c]; rfl
    · rw [if_neg c, if_neg c, implFraction_l k]
theorem ImplFraction_ (k : Nat) (n d : Int) (hn : 0 ≤ n) (hn2 : n ≤ 100) : impl_fraction.f k n d = (spec_l00Gcd.f k n d).bind fun g => if g = 0 then none else some (wrap64 (Int.tdiv n g), wrap64 (Int.tdiv d g)) := by
  unfold impl_fraction.f
  rw [absolute_ _ (by omega) (by omega)]; simp only [Option.bind_some]
  rw [show ab n = n by unfold ab; rw [if_neg (by omega)], implFraction_l]; rfl

theorem ImplShare_ (g : List Int) (hl : g.length ≤ 1048576) (k : Nat) (hk : 1048700 ≤ k) : impl_ShareNotOriginal.f k g = spec_ShareNotOriginal.f k g := by
  unfold impl_ShareNotOriginal.f spec_ShareNotOriginal.f
  rw [ImplOkT_ g, SpecOkT_ g hl k (by omega)]; simp only [Option.bind_some]
  by_cases h : okT g = true
  · obtain ⟨g1, g2, g3⟩ := okT_says h
    rw [if_pos h, if_pos h]
    by_cases z : (g.length : Int) = 0
    · rw [if_pos z, if_pos z]
    · have hb := nors_len g g.length 0
      rw [if_neg z, if_neg z, implNors_ g (by omega) k (by omega), SpecCounts_ g h k (by omega)]; simp only [Option.bind_some]
      rw [if_pos (by rw [cnt4_len]; omega), share_num g h, w64 (n := ((nors g g.length 0).length : Int)) (by omega) (by omega), ImplFraction_ k _ _ (by omega) (by omega)]
      unfold spec_l02Make.f
      rw [Size_ _ (by omega) (by omega)]; simp only [Option.bind_some]
      rw [show ab ((nors g g.length 0).length : Int) = ((nors g g.length 0).length : Int) by unfold ab; rw [if_neg (by omega)]]
  · rw [if_neg h, if_neg h]

theorem specNors_l (g : List Int) (hg : g.length ≤ 40) : ∀ (d k : Nat) (i : Int) (a : List Int), (g.length : Int) - i = d → 0 ≤ i → (a.length : Int) ≤ i → d < k → spec_NotOriginal.l0 k g a i = some (a ++ nors g d i, 0) := by
  intro d
  induction d with
  | zero =>
    intro k i a hd h0 ha hk
    obtain ⟨k, rfl⟩ : ∃ m, k = m + 1 := ⟨k - 1, by omega⟩
    simp only [spec_NotOriginal.l0]; rw [if_neg (by omega)]; simp [nors]
  | succ d ih =>
    intro k i a hd h0 ha hk
    obtain ⟨k, rfl⟩ : ∃ m, k = m + 1 := ⟨k - 1, by omega⟩
    simp only [spec_NotOriginal.l0, nors]
    rw [if_pos (by omega), if_pos h0, w64 (by omega) (by omega)]
    by_cases c : rd g i = 0
    · rw [if_pos c, if_pos c, ih k (i + 1) _ (by omega) (by omega) (by omega) (by omega)]
    · rw [if_neg c, if_neg c, if_pos (by omega), ih k (i + 1) _ (by omega) (by omega) (by simp; omega) (by omega)]; simp
theorem SpecNors_ (g : List Int) (hl : g.length ≤ 1048576) (k : Nat) (hk : 1048700 ≤ k) : spec_NotOriginal.f k g = some (if okT g = true then (nors g g.length 0, 0) else ([], 1)) := by
  unfold spec_NotOriginal.f
  rw [SpecOkT_ g hl k (by omega)]; simp only [Option.bind_some]
  by_cases h : okT g = true
  · obtain ⟨g1, g2, g3⟩ := okT_says h
    rw [if_pos h, if_pos h, specNors_l g (by omega) g.length k 0 [] (by omega) (by omega) (by simp) (by omega)]; simp
  · rw [if_neg h, if_neg h]

theorem ImplNors_ (g : List Int) (k : Nat) (hk : 50 ≤ k) : impl_NotOriginal.f k g = some (if okT g = true then (nors g g.length 0, 0) else ([], 1)) := by
  unfold impl_NotOriginal.f
  rw [ImplOkT_ g]; simp only [Option.bind_some]
  by_cases h : okT g = true
  · obtain ⟨g1, g2, g3⟩ := okT_says h
    rw [if_pos h, if_pos h, implNors_ g (by omega) k hk]; rfl
  · rw [if_neg h, if_neg h]

theorem SpecCountStates_ (g : List Int) (hl : g.length ≤ 1048576) (k : Nat) (hk : 1048700 ≤ k) : spec_CountStates.f k g = some (if okT g = true then (cnt4 g, 0) else ([], 1)) := by
  unfold spec_CountStates.f
  rw [SpecOkT_ g hl k (by omega)]; simp only [Option.bind_some]
  by_cases h : okT g = true
  · rw [if_pos h, if_pos h, SpecCounts_ g h k (by omega)]; rfl
  · rw [if_neg h, if_neg h]

theorem implCounts_l (g : List Int) (hg : okT g = true) : ∀ (d k : Nat) (i : Int), (g.length : Int) - i = d → 0 ≤ i → d < k → impl_CountStates.l0 k (cnt4 (g.take i.toNat)) g g.length i = some (cnt4 g, 0) := by
  obtain ⟨g1, g2, g3⟩ := okT_says hg
  intro d
  induction d with
  | zero =>
    intro k i hd h0 hk
    obtain ⟨k, rfl⟩ : ∃ m, k = m + 1 := ⟨k - 1, by omega⟩
    simp only [impl_CountStates.l0]; rw [if_neg (by omega), List.take_of_length_le (by omega)]
  | succ d ih =>
    intro k i hd h0 hk
    obtain ⟨k, rfl⟩ : ∃ m, k = m + 1 := ⟨k - 1, by omega⟩
    have hx := g3 i h0 (by omega)
    have hc : ((List.count (rd g i) (g.take i.toNat) : Nat) : Int) ≤ 40 := by
      have := List.count_le_length (a := rd g i) (l := g.take i.toNat)
      have : (g.take i.toNat).length ≤ g.length := by rw [List.length_take]; omega
      omega
    simp only [impl_CountStates.l0]
    rw [if_pos (by omega), if_pos h0, if_pos (by omega), if_pos hx.1, if_pos (by rw [cnt4_len]; omega), w64 (n := i + 1) (by omega) (by omega), w64 (n := rd (cnt4 (g.take i.toNat)) (rd g i) + 1) (by rw [rd_cnt4 _ _ hx.1 (by omega)]; omega) (by rw [rd_cnt4 _ _ hx.1 (by omega)]; omega), cnt4_step _ _ hx.1 hx.2, ← take_rd g i h0 (by omega)]
    exact ih k (i + 1) (by omega) (by omega) (by omega)
theorem ImplCountStates_ (g : List Int) (k : Nat) (hk : 50 ≤ k) : impl_CountStates.f k g = some (if okT g = true then (cnt4 g, 0) else ([], 1)) := by
  unfold impl_CountStates.f
  rw [ImplOkT_ g]; simp only [Option.bind_some]
  by_cases h : okT g = true
  · have := okT_says h
    rw [if_pos h, if_pos h, if_pos (by omega), cnt4_nil]
    exact implCounts_l g h g.length k 0 (by omega) (by omega) (by omega)
  · rw [if_neg h, if_neg h]

theorem f6ints_l (l : List Int) (hl : l.length ≤ 1152921504606846976) : ∀ (d k : Nat) (i : Int), (l.length : Int) - i = d → 0 ≤ i → d < k → laws_f6ints.l0 k l l i = some true := by
  intro d
  induction d with
  | zero =>
    intro k i hd h0 hk
    obtain ⟨k, rfl⟩ : ∃ m, k = m + 1 := ⟨k - 1, by omega⟩
    simp only [laws_f6ints.l0]; rw [if_neg (by omega)]
  | succ d ih =>
    intro k i hd h0 hk
    obtain ⟨k, rfl⟩ : ∃ m, k = m + 1 := ⟨k - 1, by omega⟩
    simp only [laws_f6ints.l0]
    rw [if_pos (by omega), if_pos h0, if_pos (by omega), if_pos trivial, w64 (by omega) (by omega)]
    exact ih k (i + 1) (by omega) (by omega) (by omega)
theorem f6ints_ (l : List Int) (hl : l.length ≤ 1152921504606846976) (k : Nat) (hk : l.length < k) : laws_f6ints.f k l l = some true := by
  unfold laws_f6ints.f
  rw [if_pos rfl]; exact f6ints_l l hl l.length k 0 (by omega) (by omega) hk

theorem bytes_of {l : List Int} (h : ∀ x ∈ l, (Lit.int .u8 x).wf = true) : ∀ x ∈ l, 0 ≤ x ∧ x ≤ 255 := by
  intro x hx
  simpa [Lit.wf, IntKind.min, IntKind.max, IntKind.signed, IntKind.bits] using h x hx

def goodC (s : List Int) (c : List (List Int)) (y : List Int) : Prop := enoB s c y = true ∧ ∀ z ∈ y, 0 ≤ z ∧ z < (c.length : Int)
theorem bst_good (s : List Int) (c : List (List Int)) : ∀ (d : Nat) (x : Int) (b : Option (List Int)), (∀ y, b = some y → goodC s c y) → ∀ y, bst s c d x b = some y → goodC s c y
  | 0, _, b, hb, y, h => hb y h
  | d + 1, x, b, hb, y, h => by
    unfold bst at h
    by_cases q : enoB s c (mems c.length x 0) = true
    · rw [if_pos q] at h
      refine bst_good s c d (x + 1) _ (fun z hz => ?_) y h
      split at hz
      · obtain rfl := Option.some.inj hz
        exact ⟨q, fun z hz => by have := mems_in _ _ _ _ hz; omega⟩
      · exact hb z hz
    · rw [if_neg q] at h
      exact bst_good s c d (x + 1) b hb y h
theorem few_good (s : List Int) (c : List (List Int)) (h : (fewR s c).2 = 0) : goodC s c (fewR s c).1 ∧ (∀ x ∈ c, x.length = s.length) ∧ s.length ≤ 40 := by
  unfold fewR at h ⊢
  by_cases q : codeC s c = 0
  · obtain ⟨o1, _, o3, _⟩ := codeC_0 q
    rw [if_pos q] at h ⊢
    have hb := bst_good s c (2 ^ c.length) 0 none (fun y hy => by cases hy)
    cases e : bst s c (2 ^ c.length) 0 none with
    | none => rw [e] at h; simp [resF] at h
    | some y => exact ⟨hb y e, o3, (okT_says o1).1⟩
  · rw [if_neg q] at h; exact absurd h q
theorem Cu_2 (s : List Int) (c : List (List Int)) (hl : ∀ x ∈ c, x.length = s.length) (y : List Int) (hy : y.length ≤ 8) (hin : ∀ z ∈ y, 0 ≤ z ∧ z < (c.length : Int)) (i : Int) (i0 : 0 ≤ i) (i1 : i < s.length) (r : Bool) (hn : Ev (fun k => laws_FnCopiesUsed.l1 k s c y (wrap64 (i + 1))) r) : ∀ (d j : Nat) (f : Bool), y.length - j = d → j ≤ y.length → (f = true ∨ ∃ q : Nat, j ≤ q ∧ q < y.length ∧ rd (rd_L1 c (rd y (q : Int))) i = 0) → Ev (fun k => laws_FnCopiesUsed.l2 k s c y i f (j : Int)) r := by
  intro d
  induction d with
  | zero =>
    intro j f hd hj hf
    have : f = true := by
      rcases hf with hf | ⟨q, q1, q2, _⟩
      · exact hf
      · omega
    subst this
    refine Ev.step (fun k => ?_) hn
    simp only [laws_FnCopiesUsed.l2]
    rw [if_neg (by omega)]; rfl
  | succ d ih =>
    intro j f hd hj hf
    have hz := hin _ (rd_in y (j : Int) (by omega) (by omega))
    have hll := hl _ (rdL_mem c (rd y (j : Int)) hz.1 hz.2)
    cases f with
    | true =>
      refine Ev.step (h := fun k => laws_FnCopiesUsed.l2 k s c y i true ((j + 1 : Nat) : Int)) (fun k => ?_) (ih (j + 1) true (by omega) (by omega) (.inl rfl))
      simp only [laws_FnCopiesUsed.l2]
      rw [if_pos (by omega), w64 (n := (j : Int) + 1) (by omega) (by omega)]; rfl
    | false =>
      refine Ev.step (h := fun k => laws_FnCopiesUsed.l2 k s c y i (rd (rd_L1 c (rd y (j : Int))) i == 0) ((j + 1 : Nat) : Int)) (fun k => ?_) (ih (j + 1) _ (by omega) (by omega) ?_)
      · simp only [laws_FnCopiesUsed.l2]
        rw [if_pos (by omega), w64 (n := (j : Int) + 1) (by omega) (by omega), if_neg (by simp), if_pos (by omega), if_pos hz.1, if_pos hz.2, if_pos i0, if_pos (by omega)]; rfl
      · rcases hf with hf | ⟨q, q1, q2, q3⟩
        · cases hf
        · by_cases e : q = j
          · subst e; exact .inl (by simpa using q3)
          · exact .inr ⟨q, by omega, q2, q3⟩
theorem Cu_1 (s : List Int) (c : List (List Int)) (hl : ∀ x ∈ c, x.length = s.length) (hs : s.length ≤ 40) (y : List Int) (hy : y.length ≤ 8) (hg : goodC s c y) : ∀ (d i : Nat), s.length - i = d → i ≤ s.length → Ev (fun k => laws_FnCopiesUsed.l1 k s c y (i : Int)) true := by
  intro d
  induction d with
  | zero =>
    intro i hd hi
    refine Ev.now (fun k => ?_)
    simp only [laws_FnCopiesUsed.l1]
    rw [if_neg (by omega)]
  | succ d ih =>
    intro i hd hi
    refine Ev.step (h := fun k => laws_FnCopiesUsed.l2 k s c y (i : Int) (rd s (i : Int) != 1) ((0 : Nat) : Int)) (fun k => ?_) (Cu_2 s c hl y hy hg.2 (i : Int) (by omega) (by omega) true ?_ y.length 0 _ rfl (by omega) ?_)
    · simp only [laws_FnCopiesUsed.l1]
      rw [if_pos (by omega), if_pos (by omega)]; rfl
    · have := ih (i + 1) (by omega) (by omega)
      rw [w64 (n := (i : Int) + 1) (by omega) (by omega)]
      exact this
    · have h := (enoB_iff s c y).1 hg.1 i (by omega) (by omega)
      unfold lacks at h
      by_cases e : rd s (i : Int) = 1
      · rw [decide_eq_true e, Bool.true_and] at h
        have h : (y.any fun k => decide (rd (rd_L1 c k) (i : Int) = 0)) = true := by simpa using h
        obtain ⟨z, hz, hz2⟩ := List.any_eq_true.1 h
        obtain ⟨q, hq, he⟩ := List.getElem_of_mem hz
        refine .inr ⟨q, by omega, hq, ?_⟩
        have hr : rd y (q : Int) = z := by
          unfold rd; rw [Int.toNat_natCast, List.getD_eq_getElem?_getD, List.getElem?_eq_getElem hq]; exact he
        rw [hr]; exact of_decide_eq_true hz2
      · exact .inl (by simpa using e)
theorem Cu_0 (a P : List Int) (hP : P.length ≤ 1000) (hin : ∀ z ∈ P, 0 ≤ z ∧ z < (a.length : Int) ∧ rd a z ≠ 0) (s : List Int) (c : List (List Int)) (cd : Int) (y : List Int) (hn : cd = 0 → Ev (fun k => laws_FnCopiesUsed.l1 k s c y ((0 : Nat) : Int)) true) (b : Int) : ∀ (d i : Nat), P.length - i = d → i ≤ P.length → Ev (fun k => laws_FnCopiesUsed.l0 k s c cd y a P (i : Int)) true := by
  intro d
  induction d with
  | zero =>
    intro i hd hi
    by_cases e : cd = 0
    · refine Ev.step (fun k => ?_) (hn e)
      simp only [laws_FnCopiesUsed.l0]
      rw [if_neg (by omega), if_pos e]; rfl
    · refine Ev.now (fun k => ?_)
      simp only [laws_FnCopiesUsed.l0]
      rw [if_neg (by omega), if_neg e]
  | succ d ih =>
    intro i hd hi
    have hz := hin _ (rd_in P (i : Int) (by omega) (by omega))
    refine Ev.step (h := fun k => laws_FnCopiesUsed.l0 k s c cd y a P ((i + 1 : Nat) : Int)) (fun k => ?_) (ih (i + 1) (by omega) (by omega))
    simp only [laws_FnCopiesUsed.l0]
    rw [if_pos (by omega), if_pos (by omega), if_pos hz.1, if_pos hz.2.1, if_neg hz.2.2, w64 (n := (i : Int) + 1) (by omega) (by omega)]; rfl
theorem FnCopiesUsed : laws_FnCopiesUsed.Pure := by
  intro l _ _ hl
  have hl := bytes_of hl
  by_cases hb : (l.length : Int) > 4096
  · exact ⟨0, by
      unfold laws_FnCopiesUsed.f
      rw [show laws_f6big.f l = some (decide ((l.length : Int) > 4096)) from rfl, decide_eq_true hb]; rfl⟩
  obtain ⟨⟨s, c⟩, ⟨hs, hc, hx⟩, K1, e1⟩ := DrawCopies_ l hl
  obtain ⟨⟨a, a2, a3⟩, ⟨ha, _, _⟩, K2, e2⟩ := Draw22_ l hl 0 0 (by omega) (by omega)
  dsimp only at e1 e2 hs hc hx ha
  have htot : ∀ (c : List (List Int)), (∀ x ∈ c, x.length ≤ 42) → tot c ≤ 42 * c.length := by
    intro c
    induction c with
    | nil => intro _; simp [tot]
    | cons x c ih =>
      intro h
      have h1 := h x List.mem_cons_self
      have h2 := ih (fun y hy => h y (List.mem_cons_of_mem _ hy))
      rw [tot_cons, List.length_cons]; omega
  have ht := htot c hx
  obtain ⟨K3, e3⟩ := ImplFewest_ s c
  obtain ⟨K4, e4⟩ := SpecFewest_ s (by omega) c (by omega) (by omega)
  dsimp only at e3 e4
  obtain ⟨R, hR, hR1, hR2⟩ := SpecShare_ a (by omega)
  have hfl := fewR_len s c
  have hfg := few_good s c
  obtain ⟨P, hP⟩ : ∃ P, P = (if okT a = true then (nors a a.length 0, (0 : Int)) else (([] : List Int), 1)) := ⟨_, rfl⟩
  obtain ⟨C, hC⟩ : ∃ C, C = (if okT a = true then (cnt4 a, (0 : Int)) else (([] : List Int), 1)) := ⟨_, rfl⟩
  have hPl : P.1.length ≤ 41 := by
    rw [hP]
    by_cases o : okT a = true
    · rw [if_pos o]; have := nors_len a a.length 0; show (nors a a.length 0).length ≤ 41; omega
    · rw [if_neg o]; simp
  have hCl : C.1.length ≤ 4 := by
    rw [hC]
    by_cases o : okT a = true
    · rw [if_pos o]; show (cnt4 a).length ≤ 4; rw [cnt4_len]; omega
    · rw [if_neg o]; simp
  have hPin : ∀ z ∈ P.1, 0 ≤ z ∧ z < (a.length : Int) ∧ rd a z ≠ 0 := by
    intro z hz
    rw [hP] at hz
    by_cases o : okT a = true
    · rw [if_pos o] at hz
      have := (nors_mem a a.length 0 z).1 hz
      exact ⟨by omega, by omega, this.2.2⟩
    · rw [if_neg o] at hz; cases hz
  obtain ⟨K5, e5⟩ := Cu_0 a P.1 (by omega) hPin s c (fewR s c).2 (fewR s c).1 (fun h0 => by
    obtain ⟨g1, g2, g3⟩ := hfg h0
    exact Cu_1 s c g2 g3 _ hfl g1 s.length 0 rfl (by omega)) 0 P.1.length 0 rfl (by omega)
  dsimp only at e5
  have hmul : R.2.2 = 0 → wrap64 (R.1 * (a.length : Int)) = wrap64 ((P.1.length : Int) * R.2.1) := by
    intro h0
    obtain ⟨o, hp⟩ := hR2 h0
    obtain ⟨q, q0, ⟨u, hu⟩, ⟨v, hv⟩, hr⟩ := hR1 o hp
    have hPn : P.1 = nors a a.length 0 := by rw [hP, if_pos o]
    rw [hPn, hr]
    show wrap64 (((nors a a.length 0).length : Int) / q * (a.length : Int)) = wrap64 (((nors a a.length 0).length : Int) * ((a.length : Int) / q))
    congr 1
    rw [hu, hv, Int.mul_ediv_cancel_left _ (by omega), Int.mul_ediv_cancel_left _ (by omega)]
    grind
  have hsum : C.2 = 0 → ∀ k, 10 ≤ k → laws_f6sum.f k C.1 = some (a.length : Int) := by
    intro h0 k hk
    rw [hC] at h0 ⊢
    by_cases o : okT a = true
    · obtain ⟨o1, o2, o3⟩ := okT_says o
      have hs4 := cnt4_sum a o2
      rw [if_pos o]
      show laws_f6sum.f k (cnt4 a) = _
      rw [cnt4_is, f6sum4_ _ _ _ _ k hk (by omega) (by omega) (by omega) (by omega)]
      congr 1; omega
    · rw [if_neg o] at h0; simp at h0
  refine ⟨1048800 + (K1 + K2 + K3 + K4 + K5), ?_⟩
  generalize hk : 1048800 + (K1 + K2 + K3 + K4 + K5) = k
  unfold laws_FnCopiesUsed.f
  rw [show laws_f6big.f l = some (decide ((l.length : Int) > 4096)) from rfl, decide_eq_false hb]; simp only [Option.bind_some, Bool.false_eq_true, if_false]
  rw [show spec_DrawFewestCopies.f k l = some (s, c) from by unfold spec_DrawFewestCopies.f; rw [e1 k (by omega)]; rfl]; simp only [Option.bind_some]
  rw [e3 k (by omega)]; simp only [Option.bind_some]
  rw [e4 k (by omega)]; simp only [Option.bind_some]
  rw [show spec_DrawShareNotOriginal.f k l = some a from by
    show (spec_l22Draw.f k l 0 0).bind (fun t => some t.1) = some a
    rw [e2 k (by omega)]; rfl]; simp only [Option.bind_some]
  rw [ImplShare_ a (by omega) k (by omega), hR k (by omega)]; simp only [Option.bind_some]
  rw [ImplNors_ a k (by omega), SpecNors_ a (by omega) k (by omega), ← hP]; simp only [Option.bind_some]
  rw [ImplCountStates_ a k (by omega), SpecCountStates_ a (by omega) k (by omega), ← hC]; simp only [Option.bind_some, if_true]
  rw [f6ints_ (fewR s c).1 (by omega) k (by omega)]; simp only [Option.bind_some, if_true]
  rw [f6ints_ P.1 (by omega) k (by omega)]; simp only [Option.bind_some, if_true]
  rw [f6ints_ C.1 (by omega) k (by omega)]; simp only [Option.bind_some, if_true, beq_self_eq_true, Bool.not_true, Bool.or_self, Bool.false_eq_true, if_false]
  obtain ⟨k, rfl⟩ : ∃ m, k = m + 1 := ⟨k - 1, by omega⟩
  obtain ⟨k, rfl⟩ : ∃ m, k = m + 1 := ⟨k - 1, by omega⟩
  obtain ⟨k, rfl⟩ : ∃ m, k = m + 1 := ⟨k - 1, by omega⟩
  have j2 : laws_FnCopiesUsed.j2 (k + 1) s c (fewR s c).2 (fewR s c).1 a P.1 false = some true := by
    simp only [laws_FnCopiesUsed.j2, Bool.false_eq_true, if_false]
    exact e5 k (by omega)
  have j1 : laws_FnCopiesUsed.j1 (k + 1 + 1) s c (fewR s c).2 (fewR s c).1 a P.1 C.2 C.1 false = some true := by
    simp only [laws_FnCopiesUsed.j1, Bool.false_eq_true, if_false]
    by_cases z : C.2 = 0
    · rw [if_pos z, hsum z _ (by omega)]; simp only [Option.bind_some, bne_self_eq_false]
      exact j2
    · rw [if_neg z]; exact j2
  simp only [laws_FnCopiesUsed.j0, Bool.false_eq_true, if_false]
  by_cases z : R.2.2 = 0
  · rw [if_pos z, hmul z]; simp only [bne_self_eq_false]
    exact j1
  · rw [if_neg z]; exact j1

end Go.Proofs.Ytfajacoagaamlaa.Pure
