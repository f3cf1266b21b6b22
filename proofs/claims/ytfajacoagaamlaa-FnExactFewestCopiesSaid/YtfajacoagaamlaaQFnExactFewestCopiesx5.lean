/- Walks of the Go functions that the law FnExactFewestCopies reaches: written by a program of this session. -/
import Derived.Test.YtfajacoagaamlaaQFnExactFewestCopiesx0
import Derived.Test.YtfajacoagaamlaaQFnExactFewestCopiesx1
import Derived.Test.YtfajacoagaamlaaQFnExactFewestCopiesx2
import Derived.Test.YtfajacoagaamlaaQFnExactFewestCopiesx3
import Derived.Test.YtfajacoagaamlaaQFnExactFewestCopiesx4
namespace Go.Proofs.Ytfajacoagaamlaa.QFnExactFewestCopies
open Go.RowKit Go.Proofs.YtfajacoagaamlaaW.PrintWords Go.Proofs.YtfajacoagaamlaaW.PrintLast Go.Proofs.YtfajacoagaamlaaW.PrintMore
attribute [local go_sem] max2_int min2_int max_two min_two max_three min_three max_four min_four   -- for this text's walks alone
set_option linter.unusedVariables false
set_option linter.unusedSimpArgs false

/-! ### impl_FewestCopies: function 48 -/
/-- Is the list ahead of the best one? -/
def aheadOf (k : Nat) (ch : List Int) : Option (List Int) → Option Bool
  | none => some true
  | some y => if (ch.length : Int) < (y.length : Int) then some true else if (ch.length : Int) = (y.length : Int) then (slices_Compare_int64_int64.f k ch y).bind fun t => some (decide (t < 0)) else some false
/-- The best of the sets from one on. -/
def fcl (k : Nat) (s : List Int) (c : List (List Int)) : Nat → Int → Option (List Int) → Option (Option (List Int))
  | 0, _, b => some b
  | d + 1, x, b => (impl_members.f k x).bind fun ch => (impl_isEnough.f s c ch).bind fun e => if e = true then (aheadOf k ch b).bind fun q => fcl k s c d (x + 1) (if q = true then some ch else b) else fcl k s c d (x + 1) b
def impl_FewestCopies.f (k : Nat) (l0 : List Int) (l1 : List (List Int)) : Option ((List Int) × Int) := (impl_copiesCode.f l0 l1).bind fun t => if t = 0 then (if l1.length ≤ 20 then (fcl k l0 l1 (2 ^ l1.length) 0 none).bind fun b => match b with
  | none => some ([], 3)
  | some y => some (y, 0) else none) else some ([], t)
theorem aheadOf_mono (k : Nat) (ch : List Int) : ∀ b, LeO (aheadOf k ch b) (aheadOf (k + 1) ch b)
  | none => LeO.refl _
  | some y => LeO.ite (LeO.refl _) (LeO.ite (LeO.bind (slices_Compare_int64_int64.mono _ _ _) (fun _ => LeO.refl _)) (LeO.refl _))
theorem fcl_mono (k : Nat) (s : List Int) (c : List (List Int)) : ∀ d x b, LeO (fcl k s c d x b) (fcl (k + 1) s c d x b)
  | 0, _, _ => LeO.refl _
  | d + 1, x, b => LeO.bind (impl_members.mono _ _) (fun ch => LeO.bind (LeO.refl _) (fun e => LeO.ite (LeO.bind (aheadOf_mono k ch b) (fun q => fcl_mono k s c d _ _)) (fcl_mono k s c d _ _)))
theorem impl_FewestCopies.mono : ∀ a0 a1 k, LeO (impl_FewestCopies.f k a0 a1) (impl_FewestCopies.f (k + 1) a0 a1) := by
  intro a0 a1 k
  unfold impl_FewestCopies.f
  exact LeO.bind (LeO.refl _) (fun t => LeO.ite (LeO.ite (LeO.bind (fcl_mono k a0 a1 _ _ _) (fun _ => LeO.refl _)) (LeO.refl _)) (LeO.refl _))
theorem shl_one (n m : Nat) (h : 2 ^ n = m) (hm : m ≤ 1048576) : wrap64 ((2 : Int) ^ n) = (m : Int) := by
  have e : ((2 : Int) ^ n) = (m : Int) := by rw [← h]; simp
  rw [e]
  unfold wrap64
  omega
theorem own_some {A : Option Addr} {n c : Nat} (h : ∃ b, (Value.slice A n c).ownBlock = some b) : ∃ a, A = some a := by
  obtain ⟨b, hb⟩ := h
  cases A with
  | none => simp [Value.ownBlock] at hb
  | some a => exact ⟨a, rfl⟩
/-- The best one so far lies so. -/
def BestAt (base : Nat) (w : World) (v : Value) : Option (List Int) → Prop
  | none => v = .slice none 0 0
  | some y => ∃ a c, v = .slice (some a) y.length c ∧ Kd.R (Kd.int .i64) 2 w base (fun _ => True) v y
theorem best_below {base : Nat} {w w' : World} {v : Value} : ∀ {b : Option (List Int)}, BestAt base w v b → Below w.heap.size w w' → BestAt base w' v b
  | none, h, _ => h
  | some y, ⟨a, c, e, h⟩, hb => ⟨a, c, e, Kd.R_below h hb⟩
theorem best_drewN {base : Nat} {w : World} {v : Value} {b : Option (List Int)} (h : BestAt base w v b) (n : Nat) : BestAt base (w.drewN n) v b := best_below h (pw_below_drewN (Below.refl _ _) n)
set_option maxHeartbeats 4000000 in
set_option maxRecDepth 100000 in
theorem impl_FewestCopies.calls (k : Nat) (A0 : Option Addr) (c0 : Nat) (l0 : List Int) (A1 : Option Addr) (c1 : Nat) (l1 : List (List Int)) (r1 : List Int) (r2 : Int) (w : World) (hr0 : Kd.C (Kd.int .i64) w A0 l0.length l0) (hc0 : l0.length ≤ c0) (hr1 : Kd.C (Kd.slice 2 (Kd.int .i64)) w A1 l1.length l1) (hc1 : l1.length ≤ c1) (h : impl_FewestCopies.f k l0 l1 = some (r1, r2)) :
    Calls Try.prog 48 #[.slice A0 l0.length c0, .slice A1 l1.length c1] w fun e w' => ∃ v0_ : Value, e = .returned (.tuple #[v0_, .int .i64 r2]) ∧ Kd.R (Kd.int .i64) 2 w' w.heap.size (fun _ => True) v0_ r1 ∧ Below w.heap.size w w' := by
  have HR0 := Aside0.mk hr0
  have HR1 := Aside0.mk hr1
  have HC0 := Aside0.mk hc0
  have HC1 := Aside0.mk hc1
  have HB := Aside0.mk (Below.refl w.heap.size w)
  clear hr0 hr1 hc0 hc1
  unfold impl_FewestCopies.f at h
  obtain ⟨cd, hcd, h⟩ := Option.bind_eq_some_iff.mp h
  have HCD := Aside0.mk hcd
  clear hcd
  by_cases e0 : cd = 0
  case neg =>
    rw [if_neg e0] at h
    obtain ⟨rfl, rfl⟩ := Prod.mk.inj (Option.some.inj h)
    clear h
    have e1 : (cd != 0) = true := bne_iff_ne.mpr e0
    go_enter Try.func48, Try.ntmps48
    go_wp2_with (go_at_call 76; refine (impl_copiesCode.calls _ _ l0 _ _ l1 cd _ HR0.out HC0.out HR1.out HC1.out HCD.out).mono ?_; rintro e w1 ⟨rfl, hb⟩; have n0_ := Aside0.mk (below_step HB.out hb); clear HB hb; have HB := n0_; clear n0_)
    go_ret2
    exact ⟨_, rfl, Kd.R_nil _ _ _ _ _, HB.out⟩
  subst e0
  rw [if_pos rfl] at h
  by_cases e1 : l1.length ≤ 20
  case neg => rw [if_neg e1] at h; cases h
  rw [if_pos e1] at h
  obtain ⟨bb, hbb, h⟩ := Option.bind_eq_some_iff.mp h
  have HBB := Aside0.mk hbb
  have HRES := Aside0.mk h
  have hm : ∃ m : Nat, 2 ^ l1.length = m := ⟨_, rfl⟩
  obtain ⟨m, hm⟩ := hm
  have hpw : m ≤ 1048576 := by rw [← hm]; exact Nat.le_trans (Nat.pow_le_pow_right (by omega) e1) (by decide)
  have hsl := shl_one _ m hm hpw
  have hl0 : ¬ ((l1.length : Int) < 0) := by omega
  rw [hm] at hbb
  have HBB := Aside0.mk hbb
  have HRES := Aside0.mk h
  clear hbb h hm
  have hnn : ∀ w_, (binOp .eql 22 (.slice none 0 0) (.slice none 0 0)).run Try.prog w_ = .ok (.bool true) w_ := fun w_ => Lib.run_eql_slice_nil w_ _ _ none 0 0 0 0 Try.underlying22
  go_enter Try.func48, Try.ntmps48
  go_wp2_with (go_at_call 76; refine (impl_copiesCode.calls _ _ l0 _ _ l1 0 _ HR0.out HC0.out HR1.out HC1.out HCD.out).mono ?_; rintro e w1 ⟨rfl, hb⟩; have n0_ := Aside0.mk (below_step HB.out hb); clear HB hb; have HB := n0_; clear n0_)
  (try rw [hsl])
  have HHI := Aside0.mk hsl
  clear hl0 hsl e1
  go_loopg [7, 19] m (fun gg s7 s19 wr => ∃ (d : Nat) (x : Int) (b : Option (List Int)), d ≤ gg ∧ s19 = .int .i64 x ∧ 0 ≤ x ∧ x + d = m ∧ Aside0 (fcl k l0 l1 d x b = some bb) ∧ Aside0 (BestAt w.heap.size wr s7 b) ∧ Aside0 (Below w.heap.size w wr))
  case atStart => exact ⟨m, 0, none, Nat.le_refl _, rfl, by omega, by omega, HBB, ⟨rfl⟩, HB⟩
  case round =>
    clear HB
    obtain ⟨d, x, b, hg, rfl, hx0, hxd, HM, HBest, HB⟩ := hrel
    cases d with
    | zero =>
      have hltz : ¬ x < (m : Int) := by omega
      obtain rfl : b = bb := Option.some.inj HM.out
      cases b with
      | none =>
        obtain rfl := HBest.out
        obtain ⟨rfl, rfl⟩ := Prod.mk.inj (Option.some.inj HRES.out)
        go_wp2
        go_ret2
        exact ⟨_, rfl, Kd.R_nil _ _ _ _ _, HB.out⟩
      | some y =>
        obtain ⟨a, c, rfl, HY⟩ := HBest.out
        have HY := Aside0.mk HY
        obtain ⟨rfl, rfl⟩ := Prod.mk.inj (Option.some.inj HRES.out)
        have hns : (binOp .eql 22 (.slice (some a) y.length c) (.slice none 0 0)).run Try.prog wr = .ok (.bool false) wr := Lib.run_eql_slice_nil wr _ _ _ _ _ _ _ Try.underlying22
        clear HBest
        go_wp2
        go_ret2
        exact ⟨_, rfl, HY.out, HB.out⟩
    | succ d =>
      have hltz : x < (m : Int) := by omega
      have hm := HM.out
      rw [fcl] at hm
      obtain ⟨ch, hch, hm⟩ := Option.bind_eq_some_iff.mp hm
      obtain ⟨en, hen, hm⟩ := Option.bind_eq_some_iff.mp hm
      have HCH := Aside0.mk hch
      have HEN := Aside0.mk hen
      clear hch hen HM
      have hxw : wrap64 (x + 1) = x + 1 := by unfold wrap64; omega
      cases b with
      | none =>
        obtain rfl := HBest.out
        clear HBest
        cases en with
        | false =>
          rw [if_neg (by simp)] at hm
          have HMM := Aside0.mk hm
          clear hm
          go_wp2_with (first | (go_at_call 80; refine (impl_members.calls k x ch _ HCH.out).mono ?_; rintro e w2 ⟨v2, rfl, hr, hb, hn⟩; obtain ⟨A2, c2, rfl⟩ := Kd.R_slice hr; obtain ⟨a2, rfl⟩ := own_some hn; have n5_ := Aside0.mk (Kd.R_lower hr HB.out.size); have n0_ := Aside0.mk (below_step HB.out hb); clear HB; have HB := n0_; clear n0_; have HCR := n5_; clear n5_ hr hb hn) | (go_at_call 81; refine (impl_isEnough.calls _ _ l0 _ _ l1 _ _ ch _ _ (Kd.C_below HR0.out HB.out) HC0.out (Kd.C_below HR1.out HB.out) HC1.out (Kd.R_reads' HCR.out).2.2 (Kd.R_reads' HCR.out).2.1 HEN.out).mono ?_; rintro e w3 ⟨rfl, hb⟩; have n0_ := Aside0.mk (below_step HB.out hb); have n1_ := Aside0.mk (Kd.R_below HCR.out hb); clear HB HCR; have HB := n0_; have HCR := n1_; clear n0_ n1_; clear hb))
          go_roundg d
          case measure => omega
          case rel => exact ⟨d, x + 1, none, Nat.le_refl _, by first | rfl | go_num | (simp only [hxw]; done) | (rw [hxw]), by omega, by omega, HMM, ⟨rfl⟩, HB⟩
        | true =>
          rw [if_pos rfl] at hm
          obtain ⟨q, hq, hm⟩ := Option.bind_eq_some_iff.mp hm
          obtain rfl : true = q := Option.some.inj hq
          rw [if_pos rfl] at hm
          have HMM := Aside0.mk hm
          clear hm hq
          go_wp2_with (first | (go_at_call 80; refine (impl_members.calls k x ch _ HCH.out).mono ?_; rintro e w2 ⟨v2, rfl, hr, hb, hn⟩; obtain ⟨A2, c2, rfl⟩ := Kd.R_slice hr; obtain ⟨a2, rfl⟩ := own_some hn; have n5_ := Aside0.mk (Kd.R_lower hr HB.out.size); have n0_ := Aside0.mk (below_step HB.out hb); clear HB; have HB := n0_; clear n0_; have HCR := n5_; clear n5_ hr hb hn) | (go_at_call 81; refine (impl_isEnough.calls _ _ l0 _ _ l1 _ _ ch _ _ (Kd.C_below HR0.out HB.out) HC0.out (Kd.C_below HR1.out HB.out) HC1.out (Kd.R_reads' HCR.out).2.2 (Kd.R_reads' HCR.out).2.1 HEN.out).mono ?_; rintro e w3 ⟨rfl, hb⟩; have n0_ := Aside0.mk (below_step HB.out hb); have n1_ := Aside0.mk (Kd.R_below HCR.out hb); clear HB HCR; have HB := n0_; have HCR := n1_; clear n0_ n1_; clear hb))
          go_roundg d
          case measure => omega
          case rel => exact ⟨d, x + 1, some ch, Nat.le_refl _, by first | rfl | go_num | (simp only [hxw]; done) | (rw [hxw]), by omega, by omega, HMM, ⟨⟨_, _, rfl, HCR.out⟩⟩, HB⟩
      | some y =>
        obtain ⟨a, c, rfl, HY⟩ := HBest.out
        have HY := Aside0.mk HY
        clear HBest
        have hns : ∀ w_, (binOp .eql 22 (.slice (some a) y.length c) (.slice none 0 0)).run Try.prog w_ = .ok (.bool false) w_ := fun w_ => Lib.run_eql_slice_nil w_ _ _ (some a) _ _ 0 0 Try.underlying22
        cases en with
        | false =>
          rw [if_neg (by simp)] at hm
          have HMM := Aside0.mk hm
          clear hm
          go_wp2_with (first | (go_at_call 80; refine (impl_members.calls k x ch _ HCH.out).mono ?_; rintro e w2 ⟨v2, rfl, hr, hb, hn⟩; obtain ⟨A2, c2, rfl⟩ := Kd.R_slice hr; obtain ⟨a2, rfl⟩ := own_some hn; have n5_ := Aside0.mk (Kd.R_lower hr HB.out.size); have n0_ := Aside0.mk (below_step HB.out hb); have n2_ := Aside0.mk (Kd.R_below HY.out hb); clear HB HY; have HB := n0_; have HY := n2_; clear n0_ n2_; have HCR := n5_; clear n5_ hr hb hn) | (go_at_call 81; refine (impl_isEnough.calls _ _ l0 _ _ l1 _ _ ch _ _ (Kd.C_below HR0.out HB.out) HC0.out (Kd.C_below HR1.out HB.out) HC1.out (Kd.R_reads' HCR.out).2.2 (Kd.R_reads' HCR.out).2.1 HEN.out).mono ?_; rintro e w3 ⟨rfl, hb⟩; have n0_ := Aside0.mk (below_step HB.out hb); have n1_ := Aside0.mk (Kd.R_below HCR.out hb); have n2_ := Aside0.mk (Kd.R_below HY.out hb); clear HB HCR HY; have HB := n0_; have HCR := n1_; have HY := n2_; clear n0_ n1_ n2_; clear hb) | (go_at_call 82; refine (slices_Compare_int64_int64.calls k _ _ ch _ _ y t _ (Kd.R_reads' HCR.out).2.2 (Kd.R_reads' HCR.out).2.1 (Kd.R_reads' HY.out).2.2 (Kd.R_reads' HY.out).2.1 HT.out).mono ?_; rintro e w4 ⟨rfl, nd, rfl⟩; have n0_ := Aside0.mk (pw_below_drewN HB.out nd); have n1_ := Aside0.mk (Kd.R_drewN HCR.out nd); have n2_ := Aside0.mk (Kd.R_drewN HY.out nd); clear HB HCR HY; have HB := n0_; have HCR := n1_; have HY := n2_; clear n0_ n1_ n2_))
          go_roundg d
          case measure => omega
          case rel => exact ⟨d, x + 1, some y, Nat.le_refl _, by first | rfl | go_num | (simp only [hxw]; done) | (rw [hxw]), by omega, by omega, HMM, ⟨⟨_, _, rfl, HY.out⟩⟩, HB⟩
        | true =>
          rw [if_pos rfl] at hm
          obtain ⟨q, hq, hm⟩ := Option.bind_eq_some_iff.mp hm
          have hq : (if (ch.length : Int) < (y.length : Int) then some true else if (ch.length : Int) = (y.length : Int) then (slices_Compare_int64_int64.f k ch y).bind fun t => some (decide (t < 0)) else some false) = some q := hq
          by_cases h1 : (ch.length : Int) < (y.length : Int)
          · rw [if_pos h1] at hq
            obtain rfl := Option.some.inj hq
            rw [if_pos rfl] at hm
            have HMM := Aside0.mk hm
            clear hm hq
            have d1 := decide_eq_true h1
            have d1n : decide (ch.length < y.length) = true := decide_eq_true (by omega)
            go_wp2_with (first | (go_at_call 80; refine (impl_members.calls k x ch _ HCH.out).mono ?_; rintro e w2 ⟨v2, rfl, hr, hb, hn⟩; obtain ⟨A2, c2, rfl⟩ := Kd.R_slice hr; obtain ⟨a2, rfl⟩ := own_some hn; have n5_ := Aside0.mk (Kd.R_lower hr HB.out.size); have n0_ := Aside0.mk (below_step HB.out hb); have n2_ := Aside0.mk (Kd.R_below HY.out hb); clear HB HY; have HB := n0_; have HY := n2_; clear n0_ n2_; have HCR := n5_; clear n5_ hr hb hn) | (go_at_call 81; refine (impl_isEnough.calls _ _ l0 _ _ l1 _ _ ch _ _ (Kd.C_below HR0.out HB.out) HC0.out (Kd.C_below HR1.out HB.out) HC1.out (Kd.R_reads' HCR.out).2.2 (Kd.R_reads' HCR.out).2.1 HEN.out).mono ?_; rintro e w3 ⟨rfl, hb⟩; have n0_ := Aside0.mk (below_step HB.out hb); have n1_ := Aside0.mk (Kd.R_below HCR.out hb); have n2_ := Aside0.mk (Kd.R_below HY.out hb); clear HB HCR HY; have HB := n0_; have HCR := n1_; have HY := n2_; clear n0_ n1_ n2_; clear hb) | (go_at_call 82; refine (slices_Compare_int64_int64.calls k _ _ ch _ _ y t _ (Kd.R_reads' HCR.out).2.2 (Kd.R_reads' HCR.out).2.1 (Kd.R_reads' HY.out).2.2 (Kd.R_reads' HY.out).2.1 HT.out).mono ?_; rintro e w4 ⟨rfl, nd, rfl⟩; have n0_ := Aside0.mk (pw_below_drewN HB.out nd); have n1_ := Aside0.mk (Kd.R_drewN HCR.out nd); have n2_ := Aside0.mk (Kd.R_drewN HY.out nd); clear HB HCR HY; have HB := n0_; have HCR := n1_; have HY := n2_; clear n0_ n1_ n2_))
            go_roundg d
            case measure => omega
            case rel => exact ⟨d, x + 1, some ch, Nat.le_refl _, by first | rfl | go_num | (simp only [hxw]; done) | (rw [hxw]), by omega, by omega, HMM, ⟨⟨_, _, rfl, HCR.out⟩⟩, HB⟩
          · rw [if_neg h1] at hq
            have d1 := decide_eq_false h1
            have d1n : decide (ch.length < y.length) = false := decide_eq_false (by omega)
            by_cases h2 : (ch.length : Int) = (y.length : Int)
            · rw [if_pos h2] at hq
              obtain ⟨t, ht, hq⟩ := Option.bind_eq_some_iff.mp hq
              have HT := Aside0.mk ht
              clear ht
              have d2 := beq_iff_eq.mpr h2
              have d2n : (ch.length == y.length) = true := beq_iff_eq.mpr (by omega)
              have d2m : decide (ch.length = y.length) = true := decide_eq_true (by omega)
              by_cases h3 : t < 0
              · rw [decide_eq_true h3] at hq
                obtain rfl := Option.some.inj hq
                rw [if_pos rfl] at hm
                have HMM := Aside0.mk hm
                have d3 := decide_eq_true h3
                clear hm hq h1 h2 h3
                go_wp2_with (first | (go_at_call 80; refine (impl_members.calls k x ch _ HCH.out).mono ?_; rintro e w2 ⟨v2, rfl, hr, hb, hn⟩; obtain ⟨A2, c2, rfl⟩ := Kd.R_slice hr; obtain ⟨a2, rfl⟩ := own_some hn; have n5_ := Aside0.mk (Kd.R_lower hr HB.out.size); have n0_ := Aside0.mk (below_step HB.out hb); have n2_ := Aside0.mk (Kd.R_below HY.out hb); clear HB HY; have HB := n0_; have HY := n2_; clear n0_ n2_; have HCR := n5_; clear n5_ hr hb hn) | (go_at_call 81; refine (impl_isEnough.calls _ _ l0 _ _ l1 _ _ ch _ _ (Kd.C_below HR0.out HB.out) HC0.out (Kd.C_below HR1.out HB.out) HC1.out (Kd.R_reads' HCR.out).2.2 (Kd.R_reads' HCR.out).2.1 HEN.out).mono ?_; rintro e w3 ⟨rfl, hb⟩; have n0_ := Aside0.mk (below_step HB.out hb); have n1_ := Aside0.mk (Kd.R_below HCR.out hb); have n2_ := Aside0.mk (Kd.R_below HY.out hb); clear HB HCR HY; have HB := n0_; have HCR := n1_; have HY := n2_; clear n0_ n1_ n2_; clear hb) | (go_at_call 82; refine (slices_Compare_int64_int64.calls k _ _ ch _ _ y t _ (Kd.R_reads' HCR.out).2.2 (Kd.R_reads' HCR.out).2.1 (Kd.R_reads' HY.out).2.2 (Kd.R_reads' HY.out).2.1 HT.out).mono ?_; rintro e w4 ⟨rfl, nd, rfl⟩; have n0_ := Aside0.mk (pw_below_drewN HB.out nd); have n1_ := Aside0.mk (Kd.R_drewN HCR.out nd); have n2_ := Aside0.mk (Kd.R_drewN HY.out nd); clear HB HCR HY; have HB := n0_; have HCR := n1_; have HY := n2_; clear n0_ n1_ n2_))
                go_roundg d
                case measure => omega
                case rel => exact ⟨d, x + 1, some ch, Nat.le_refl _, by first | rfl | go_num | (simp only [hxw]; done) | (rw [hxw]), by omega, by omega, HMM, ⟨⟨_, _, rfl, HCR.out⟩⟩, HB⟩
              · rw [decide_eq_false h3] at hq
                obtain rfl := Option.some.inj hq
                rw [if_neg (by simp)] at hm
                have HMM := Aside0.mk hm
                have d3 := decide_eq_false h3
                clear hm hq h1 h2 h3
                go_wp2_with (first | (go_at_call 80; refine (impl_members.calls k x ch _ HCH.out).mono ?_; rintro e w2 ⟨v2, rfl, hr, hb, hn⟩; obtain ⟨A2, c2, rfl⟩ := Kd.R_slice hr; obtain ⟨a2, rfl⟩ := own_some hn; have n5_ := Aside0.mk (Kd.R_lower hr HB.out.size); have n0_ := Aside0.mk (below_step HB.out hb); have n2_ := Aside0.mk (Kd.R_below HY.out hb); clear HB HY; have HB := n0_; have HY := n2_; clear n0_ n2_; have HCR := n5_; clear n5_ hr hb hn) | (go_at_call 81; refine (impl_isEnough.calls _ _ l0 _ _ l1 _ _ ch _ _ (Kd.C_below HR0.out HB.out) HC0.out (Kd.C_below HR1.out HB.out) HC1.out (Kd.R_reads' HCR.out).2.2 (Kd.R_reads' HCR.out).2.1 HEN.out).mono ?_; rintro e w3 ⟨rfl, hb⟩; have n0_ := Aside0.mk (below_step HB.out hb); have n1_ := Aside0.mk (Kd.R_below HCR.out hb); have n2_ := Aside0.mk (Kd.R_below HY.out hb); clear HB HCR HY; have HB := n0_; have HCR := n1_; have HY := n2_; clear n0_ n1_ n2_; clear hb) | (go_at_call 82; refine (slices_Compare_int64_int64.calls k _ _ ch _ _ y t _ (Kd.R_reads' HCR.out).2.2 (Kd.R_reads' HCR.out).2.1 (Kd.R_reads' HY.out).2.2 (Kd.R_reads' HY.out).2.1 HT.out).mono ?_; rintro e w4 ⟨rfl, nd, rfl⟩; have n0_ := Aside0.mk (pw_below_drewN HB.out nd); have n1_ := Aside0.mk (Kd.R_drewN HCR.out nd); have n2_ := Aside0.mk (Kd.R_drewN HY.out nd); clear HB HCR HY; have HB := n0_; have HCR := n1_; have HY := n2_; clear n0_ n1_ n2_))
                go_roundg d
                case measure => omega
                case rel => exact ⟨d, x + 1, some y, Nat.le_refl _, by first | rfl | go_num | (simp only [hxw]; done) | (rw [hxw]), by omega, by omega, HMM, ⟨⟨_, _, rfl, HY.out⟩⟩, HB⟩
            · rw [if_neg h2] at hq
              obtain rfl := Option.some.inj hq
              rw [if_neg (by simp)] at hm
              have HMM := Aside0.mk hm
              have d2 := beq_eq_false_iff_ne.mpr h2
              have d2n : (ch.length == y.length) = false := beq_eq_false_iff_ne.mpr (by omega)
              have d2m : decide (ch.length = y.length) = false := decide_eq_false (by omega)
              clear hm hq h1 h2
              go_wp2_with (first | (go_at_call 80; refine (impl_members.calls k x ch _ HCH.out).mono ?_; rintro e w2 ⟨v2, rfl, hr, hb, hn⟩; obtain ⟨A2, c2, rfl⟩ := Kd.R_slice hr; obtain ⟨a2, rfl⟩ := own_some hn; have n5_ := Aside0.mk (Kd.R_lower hr HB.out.size); have n0_ := Aside0.mk (below_step HB.out hb); have n2_ := Aside0.mk (Kd.R_below HY.out hb); clear HB HY; have HB := n0_; have HY := n2_; clear n0_ n2_; have HCR := n5_; clear n5_ hr hb hn) | (go_at_call 81; refine (impl_isEnough.calls _ _ l0 _ _ l1 _ _ ch _ _ (Kd.C_below HR0.out HB.out) HC0.out (Kd.C_below HR1.out HB.out) HC1.out (Kd.R_reads' HCR.out).2.2 (Kd.R_reads' HCR.out).2.1 HEN.out).mono ?_; rintro e w3 ⟨rfl, hb⟩; have n0_ := Aside0.mk (below_step HB.out hb); have n1_ := Aside0.mk (Kd.R_below HCR.out hb); have n2_ := Aside0.mk (Kd.R_below HY.out hb); clear HB HCR HY; have HB := n0_; have HCR := n1_; have HY := n2_; clear n0_ n1_ n2_; clear hb) | (go_at_call 82; refine (slices_Compare_int64_int64.calls k _ _ ch _ _ y t _ (Kd.R_reads' HCR.out).2.2 (Kd.R_reads' HCR.out).2.1 (Kd.R_reads' HY.out).2.2 (Kd.R_reads' HY.out).2.1 HT.out).mono ?_; rintro e w4 ⟨rfl, nd, rfl⟩; have n0_ := Aside0.mk (pw_below_drewN HB.out nd); have n1_ := Aside0.mk (Kd.R_drewN HCR.out nd); have n2_ := Aside0.mk (Kd.R_drewN HY.out nd); clear HB HCR HY; have HB := n0_; have HCR := n1_; have HY := n2_; clear n0_ n1_ n2_))
              go_roundg d
              case measure => omega
              case rel => exact ⟨d, x + 1, some y, Nat.le_refl _, by first | rfl | go_num | (simp only [hxw]; done) | (rw [hxw]), by omega, by omega, HMM, ⟨⟨_, _, rfl, HY.out⟩⟩, HB⟩


/-! ### laws_FnExactFewestCopies: function 12 -/
def laws_FnExactFewestCopies.f (k : Nat) (l0 : List Int) (l1 : List (List Int)) : Option Bool := if (l0.length : Int) > 1048576 then some true else (laws_szInt64SS.f k l1 1048576).bind fun s1 => if s1 < 0 then some true else (laws_toInt64S.f k l0).bind fun a0 => (laws_toInt64SS.f k l1).bind fun a1 => (spec_FewestCopies.f k a0 a1).bind fun ws => (impl_FewestCopies.f k a0 a1).bind fun g => if g.2 = ws.2 then ((laws_eqInt64S.f k g.1 ws.1).bind fun e => if e = true then ((laws_eqInt64S.f k a0 a0).bind fun e0 => if e0 = true then ((laws_eqInt64SS.f k a1 a1).bind fun e1 => if e1 = true then ((laws_markInt64S.f k a0 1).bind fun m0 => (laws_markInt64SS.f k a1 m0.1).bind fun m1 => if m1 < 0 then none else (laws_markInt64S.f k g.1 1).bind fun m => (laws_heldInt64S.f k m.2 1).bind fun q => if q < 0 then none else if q = m.1 then some true else none) else none) else none) else none) else none
set_option maxHeartbeats 16000000 in
set_option maxRecDepth 100000 in
theorem laws_FnExactFewestCopies.calls (k : Nat) (A0 : Option Addr) (c0 : Nat) (l0 : List Int) (A1 : Option Addr) (c1 : Nat) (l1 : List (List Int)) (r : Bool) (w : World) (hr0 : Kd.C (Kd.int .i64) w A0 l0.length l0) (hc0 : l0.length ≤ c0) (hr1 : Kd.C (Kd.slice 2 (Kd.int .i64)) w A1 l1.length l1) (hc1 : l1.length ≤ c1) (h : laws_FnExactFewestCopies.f k l0 l1 = some r) :
    Calls Try.prog 12 #[.slice A0 l0.length c0, .slice A1 l1.length c1] w fun e w' => e = .returned (.bool r) ∧ Below w.heap.size w w' := by
  have HR0 := Aside0.mk hr0
  have HC0 := Aside0.mk hc0
  have HR1 := Aside0.mk hr1
  have HC1 := Aside0.mk hc1
  have HB := Aside0.mk (Below.refl w.heap.size w)
  clear hr0 hc0 hr1 hc1
  unfold laws_FnExactFewestCopies.f at h
  by_cases b0 : (l0.length : Int) > 1048576
  · rw [if_pos b0] at h
    have bb0 : decide (1048576 < (l0.length : Int)) = true := decide_eq_true b0
    have bc0 : decide (1048576 < l0.length) = true := decide_eq_true (by omega)
    obtain rfl := Option.some.inj h
    clear h
    go_enter Try.func12, Try.ntmps12
    go_wp2
    go_ret
    exact ⟨rfl, HB.out⟩
  rw [if_neg b0] at h
  have bb0 : decide (1048576 < (l0.length : Int)) = false := decide_eq_false b0
  have bc0 : decide (1048576 < l0.length) = false := decide_eq_false (by omega)
  clear b0
  obtain ⟨s1, hs1, h⟩ := Option.bind_eq_some_iff.mp h
  have HZ1 := Aside0.mk hs1
  clear hs1
  by_cases b1 : s1 < 0
  · rw [if_pos b1] at h
    obtain rfl := Option.some.inj h
    clear h
    go_enter Try.func12, Try.ntmps12
    go_wp2_with (first | (go_at_call 40; refine (laws_szInt64SS.calls k _ _ l1 1048576 s1 _ (Kd.C_below HR1.out HB.out) HC1.out HZ1.out).mono ?_; rintro e wz1 ⟨rfl, ⟨nd, rfl⟩⟩; have n0_ := Aside0.mk (pw_below_drewN HB.out nd); clear HB; have HB := n0_; clear n0_))
    go_ret
    exact ⟨rfl, by have q := HB.out; (try rw [World.drewN_drewN] at q); exact q⟩
  rw [if_neg b1] at h
  obtain ⟨a0, hta0, h⟩ := Option.bind_eq_some_iff.mp h
  obtain ⟨a1, hta1, h⟩ := Option.bind_eq_some_iff.mp h
  obtain ⟨⟨ws, w2⟩, hsp, h⟩ := Option.bind_eq_some_iff.mp h
  obtain ⟨⟨g1, g2⟩, him, h⟩ := Option.bind_eq_some_iff.mp h
  by_cases e : g2 = w2
  case neg => rw [if_neg e] at h; cases h
  subst e
  rw [if_pos rfl] at h
  obtain ⟨eg, heq, h⟩ := Option.bind_eq_some_iff.mp h
  cases eg with
  | false => rw [if_neg (by simp)] at h; cases h
  | true =>
  rw [if_pos rfl] at h
  obtain ⟨e0, hee0, h⟩ := Option.bind_eq_some_iff.mp h
  cases e0 with
  | false => rw [if_neg (by simp)] at h; cases h
  | true =>
  rw [if_pos rfl] at h
  obtain ⟨e1, hee1, h⟩ := Option.bind_eq_some_iff.mp h
  cases e1 with
  | false => rw [if_neg (by simp)] at h; cases h
  | true =>
  rw [if_pos rfl] at h
  obtain ⟨⟨m0, u0⟩, hmk0, h⟩ := Option.bind_eq_some_iff.mp h
  obtain ⟨m1, hmk1, h⟩ := Option.bind_eq_some_iff.mp h
  by_cases hm1 : m1 < 0
  · rw [if_pos hm1] at h; cases h
  rw [if_neg hm1] at h
  obtain ⟨⟨m2, gm⟩, h8, h⟩ := Option.bind_eq_some_iff.mp h
  obtain ⟨q, h9, h⟩ := Option.bind_eq_some_iff.mp h
  by_cases hq : q < 0
  · rw [if_pos hq] at h; cases h
  rw [if_neg hq] at h
  by_cases e3 : q = m2
  case neg => rw [if_neg e3] at h; cases h
  rw [if_pos e3] at h
  obtain rfl := Option.some.inj h
  have heq : laws_eqInt64S.f k g1 ws = some true := heq
  have hmk0 : laws_markInt64S.f k a0 1 = some (m0, u0) := hmk0
  have hmk1 : laws_markInt64SS.f k a1 m0 = some m1 := hmk1
  have h8 : laws_markInt64S.f k g1 1 = some (m2, gm) := h8
  have h9 : laws_heldInt64S.f k gm 1 = some q := h9
  subst e3
  have HTA0 := Aside0.mk hta0
  have HTA1 := Aside0.mk hta1
  have HSP := Aside0.mk hsp
  have HIM := Aside0.mk him
  have HEQ := Aside0.mk heq
  have HEE0 := Aside0.mk hee0
  have HEE1 := Aside0.mk hee1
  have HMK0 := Aside0.mk hmk0
  have HMK1 := Aside0.mk hmk1
  have H8 := Aside0.mk h8
  have H9 := Aside0.mk h9
  clear h hta0 hta1 hsp him heq hee0 hee1 hmk0 hmk1 h8 h9
  have T0 := Aside0.mk trivial
  have T1 := Aside0.mk trivial
  have T2 := Aside0.mk trivial
  have T3 := Aside0.mk trivial
  have T4 := Aside0.mk trivial
  have T5 := Aside0.mk trivial
  have T6 := Aside0.mk trivial
  have T7 := Aside0.mk trivial
  have TS := Aside0.mk trivial
  have TI1 := Aside0.mk trivial
  have TI2 := Aside0.mk trivial
  have TE1 := Aside0.mk trivial
  have TE2 := Aside0.mk trivial
  have TE3 := Aside0.mk trivial
  have TH1 := Aside0.mk trivial
  have TH2 := Aside0.mk trivial
  have TQ0 := Aside0.mk trivial
  have TQ1 := Aside0.mk trivial
  have TM0 := Aside0.mk trivial
  have TM1 := Aside0.mk trivial
  have TG := Aside0.mk trivial
  go_enter Try.func12, Try.ntmps12
  go_wp2_with (first
    | (go_at_call 40; refine (laws_szInt64SS.calls k _ _ l1 1048576 s1 _ (Kd.C_below HR1.out HB.out) HC1.out HZ1.out).mono ?_; rintro e wz1 ⟨rfl, ⟨nd, rfl⟩⟩; have n0_ := Aside0.mk (pw_below_drewN HB.out nd); clear HB; have HB := n0_; clear n0_)
    | (go_at_call 16; have t_ := T0; clear t_ T0; refine (laws_toInt64S.calls k _ _ l0 a0 _ (Kd.C_below HR0.out HB.out) HC0.out HTA0.out).mono ?_; rintro e v1w ⟨v1, rfl, ho, hb⟩; have o_ := Aside0.mk (Kd.R_reads ho); have n0_ := Aside0.mk (below_step HB.out hb); clear HB; have HB := n0_; clear n0_; obtain ⟨Ax1, cx1, ex1, lx1, rx1⟩ := o_.out; subst ex1; have CA0 := Aside0.mk rx1; have LA0 := Aside0.mk lx1; clear o_ ho hb rx1 lx1)
    | (go_at_call 42; have t_ := T1; clear t_ T1; refine (laws_toInt64SS.calls k _ _ l1 a1 _ (Kd.C_below HR1.out HB.out) HC1.out HTA1.out).mono ?_; rintro e v2w ⟨v2, rfl, ho, hb⟩; have o_ := Aside0.mk (Kd.S_reads ho); have z0_ := Aside0.mk (Kd.C_below CA0.out hb); clear CA0; have CA0 := z0_; clear z0_; have n0_ := Aside0.mk (below_step HB.out hb); clear HB; have HB := n0_; clear n0_; obtain ⟨Ax2, cx2, ex2, lx2, rx2⟩ := o_.out; subst ex2; have CA1 := Aside0.mk rx2; have LA1 := Aside0.mk lx2; clear o_ ho hb rx2 lx2)
    | (go_at_call 47; have t_ := TS; clear t_ TS; refine (spec_FewestCopies.calls k _ _ a0 _ _ a1 ws g2 _ CA0.out LA0.out CA1.out LA1.out HSP.out).mono ?_; rintro e v3w ⟨v3, rfl, ho, hb⟩; have o_ := Aside0.mk (Kd.R_mono (Kd.R_bound (Kd.R_lower ho HB.out.size)) (fun k_ hk => (show k_ < v3w.heap.size from hk.2.2.1))); clear CA0 LA0 CA1 LA1; have n0_ := Aside0.mk (below_step HB.out hb); clear HB; have HB := n0_; clear n0_; have HWS := o_; clear o_ ho hb; obtain ⟨nw, hn_⟩ : ∃ n, v3w.heap.size = n := ⟨_, rfl⟩; rw [hn_] at HWS; have Nnw := Aside0.mk hn_; clear hn_; obtain ⟨Ax3, cx3, ex3⟩ := Kd.R_slice HWS.out; subst ex3)
    | (go_at_call 16; have t_ := T2; clear t_ T2; refine (laws_toInt64S.calls k _ _ l0 a0 _ (Kd.C_below HR0.out HB.out) HC0.out HTA0.out).mono ?_; rintro e v4w ⟨v4, rfl, ho, hb⟩; have o_ := Aside0.mk (Kd.R_lower (Kd.R_mono (Kd.R_bound ho) (fun k_ hk => (show nw ≤ k_ ∧ k_ < v4w.heap.size from ⟨by rw [← Nnw.out]; exact hk.2.1, hk.2.2.1⟩))) HB.out.size); have le_ := Aside0.mk (show nw ≤ v4w.heap.size by rw [← Nnw.out]; exact hb.size); have z0_ := Aside0.mk (Kd.R_below HWS.out hb); clear HWS; have HWS := z0_; clear z0_; have n0_ := Aside0.mk (below_step HB.out hb); clear HB; have HB := n0_; clear n0_; have HX0 := o_; have LEn0 := le_; clear o_ le_ ho hb; obtain ⟨n0, hn_⟩ : ∃ n, v4w.heap.size = n := ⟨_, rfl⟩; rw [hn_] at HX0 LEn0; have Nn0 := Aside0.mk hn_; clear hn_; obtain ⟨Ax4, cx4, ex4⟩ := Kd.R_slice HX0.out; subst ex4)
    | (go_at_call 42; have t_ := T3; clear t_ T3; refine (laws_toInt64SS.calls k _ _ l1 a1 _ (Kd.C_below HR1.out HB.out) HC1.out HTA1.out).mono ?_; rintro e v5w ⟨v5, rfl, ho, hb⟩; have o_ := Aside0.mk (Kd.S_lower (Kd.S_mono (Kd.S_bound ho) (fun k_ hk => (show n0 ≤ k_ ∧ k_ < v5w.heap.size from ⟨by rw [← Nn0.out]; exact hk.2.1, hk.2.2.1⟩))) HB.out.size); have le_ := Aside0.mk (show n0 ≤ v5w.heap.size by rw [← Nn0.out]; exact hb.size); have z0_ := Aside0.mk (Kd.R_below HWS.out hb); have z1_ := Aside0.mk (Kd.R_below HX0.out hb); clear HWS HX0; have HWS := z0_; have HX0 := z1_; clear z0_ z1_; have n0_ := Aside0.mk (below_step HB.out hb); clear HB; have HB := n0_; clear n0_; have HX1 := o_; have LEn1 := le_; clear o_ le_ ho hb; obtain ⟨n1, hn_⟩ : ∃ n, v5w.heap.size = n := ⟨_, rfl⟩; rw [hn_] at HX1 LEn1; have Nn1 := Aside0.mk hn_; clear hn_; obtain ⟨Ax5, cx5, ex5⟩ := Kd.S_slice HX1.out; subst ex5)
    | (go_at_call 48; have t_ := TI1; clear t_ TI1; refine (impl_FewestCopies.calls k _ _ a0 _ _ a1 g1 g2 _ (Kd.R_reads' HX0.out).2.2 (Kd.R_reads' HX0.out).2.1 (Kd.S_reads' HX1.out).2.2 (Kd.S_reads' HX1.out).2.1 HIM.out).mono ?_; rintro e v6w ⟨v6, rfl, ho, hb⟩; have o_ := Aside0.mk (Kd.R_lower (Kd.R_mono (Kd.R_bound ho) (fun k_ hk => (show n1 ≤ k_ from by rw [← Nn1.out]; exact hk.2.1))) HB.out.size); have z0_ := Aside0.mk (Kd.R_below HWS.out hb); have z1_ := Aside0.mk (Kd.R_below HX0.out hb); have z2_ := Aside0.mk (Kd.S_below HX1.out hb); clear HWS HX0 HX1; have HWS := z0_; have HX0 := z1_; have HX1 := z2_; clear z0_ z1_ z2_; have n0_ := Aside0.mk (below_step HB.out hb); clear HB; have HB := n0_; clear n0_; have HG := o_; clear o_ ho hb; obtain ⟨Ax6, cx6, ex6⟩ := Kd.R_slice HG.out; subst ex6)
    | (go_at_call 18; have t_ := TE1; clear t_ TE1; refine (laws_eqInt64S.calls k _ _ g1 _ _ ws true _ (Kd.R_reads' HG.out).2.2 (Kd.R_reads' HG.out).2.1 (Kd.R_reads' HWS.out).2.2 (Kd.R_reads' HWS.out).2.1 HEQ.out).mono ?_; rintro e we ⟨rfl, hb⟩; (first | (obtain ⟨nd, rfl⟩ := hb; have z0_ := Aside0.mk (Kd.R_drewN HWS.out nd); have z1_ := Aside0.mk (Kd.R_drewN HX0.out nd); have z2_ := Aside0.mk (Kd.S_drewN HX1.out nd); have z3_ := Aside0.mk (Kd.R_drewN HG.out nd); clear HWS HX0 HX1 HG; have HWS := z0_; have HX0 := z1_; have HX1 := z2_; have HG := z3_; clear z0_ z1_ z2_ z3_; have n0_ := Aside0.mk (pw_below_drewN HB.out nd); clear HB; have HB := n0_; clear n0_) | (have z0_ := Aside0.mk (Kd.R_below HWS.out hb); have z1_ := Aside0.mk (Kd.R_below HX0.out hb); have z2_ := Aside0.mk (Kd.S_below HX1.out hb); have z3_ := Aside0.mk (Kd.R_below HG.out hb); clear HWS HX0 HX1 HG; have HWS := z0_; have HX0 := z1_; have HX1 := z2_; have HG := z3_; clear z0_ z1_ z2_ z3_; have n0_ := Aside0.mk (below_step HB.out hb); clear HB; have HB := n0_; clear n0_; clear hb)))
    | (go_at_call 16; have t_ := T4; clear t_ T4; refine (laws_toInt64S.calls k _ _ l0 a0 _ (Kd.C_below HR0.out HB.out) HC0.out HTA0.out).mono ?_; rintro e v7w ⟨v7, rfl, ho, hb⟩; have o_ := Aside0.mk (Kd.R_reads ho); have z0_ := Aside0.mk (Kd.R_below HWS.out hb); have z1_ := Aside0.mk (Kd.R_below HX0.out hb); have z2_ := Aside0.mk (Kd.S_below HX1.out hb); have z3_ := Aside0.mk (Kd.R_below HG.out hb); clear HWS HX0 HX1 HG; have HWS := z0_; have HX0 := z1_; have HX1 := z2_; have HG := z3_; clear z0_ z1_ z2_ z3_; have n0_ := Aside0.mk (below_step HB.out hb); clear HB; have HB := n0_; clear n0_; obtain ⟨Ax7, cx7, ex7, lx7, rx7⟩ := o_.out; subst ex7; have CA0 := Aside0.mk rx7; have LA0 := Aside0.mk lx7; clear o_ ho hb rx7 lx7)
    | (go_at_call 18; have t_ := TQ0; clear t_ TQ0; refine (laws_eqInt64S.calls k _ _ a0 _ _ a0 true _ (Kd.R_reads' HX0.out).2.2 (Kd.R_reads' HX0.out).2.1 CA0.out LA0.out HEE0.out).mono ?_; rintro e we ⟨rfl, hb⟩; clear CA0 LA0; (first | (obtain ⟨nd, rfl⟩ := hb; have z0_ := Aside0.mk (Kd.R_drewN HWS.out nd); have z1_ := Aside0.mk (Kd.R_drewN HX0.out nd); have z2_ := Aside0.mk (Kd.S_drewN HX1.out nd); have z3_ := Aside0.mk (Kd.R_drewN HG.out nd); clear HWS HX0 HX1 HG; have HWS := z0_; have HX0 := z1_; have HX1 := z2_; have HG := z3_; clear z0_ z1_ z2_ z3_; have n0_ := Aside0.mk (pw_below_drewN HB.out nd); clear HB; have HB := n0_; clear n0_) | (have z0_ := Aside0.mk (Kd.R_below HWS.out hb); have z1_ := Aside0.mk (Kd.R_below HX0.out hb); have z2_ := Aside0.mk (Kd.S_below HX1.out hb); have z3_ := Aside0.mk (Kd.R_below HG.out hb); clear HWS HX0 HX1 HG; have HWS := z0_; have HX0 := z1_; have HX1 := z2_; have HG := z3_; clear z0_ z1_ z2_ z3_; have n0_ := Aside0.mk (below_step HB.out hb); clear HB; have HB := n0_; clear n0_; clear hb)))
    | (go_at_call 42; have t_ := T5; clear t_ T5; refine (laws_toInt64SS.calls k _ _ l1 a1 _ (Kd.C_below HR1.out HB.out) HC1.out HTA1.out).mono ?_; rintro e v8w ⟨v8, rfl, ho, hb⟩; have o_ := Aside0.mk (Kd.S_reads ho); have z0_ := Aside0.mk (Kd.R_below HWS.out hb); have z1_ := Aside0.mk (Kd.R_below HX0.out hb); have z2_ := Aside0.mk (Kd.S_below HX1.out hb); have z3_ := Aside0.mk (Kd.R_below HG.out hb); clear HWS HX0 HX1 HG; have HWS := z0_; have HX0 := z1_; have HX1 := z2_; have HG := z3_; clear z0_ z1_ z2_ z3_; have n0_ := Aside0.mk (below_step HB.out hb); clear HB; have HB := n0_; clear n0_; obtain ⟨Ax8, cx8, ex8, lx8, rx8⟩ := o_.out; subst ex8; have CA1 := Aside0.mk rx8; have LA1 := Aside0.mk lx8; clear o_ ho hb rx8 lx8)
    | (go_at_call 44; have t_ := TQ1; clear t_ TQ1; refine (laws_eqInt64SS.calls k _ _ a1 _ _ a1 true _ (Kd.S_reads' HX1.out).2.2 (Kd.S_reads' HX1.out).2.1 CA1.out LA1.out HEE1.out).mono ?_; rintro e we ⟨rfl, hb⟩; clear CA1 LA1; (first | (obtain ⟨nd, rfl⟩ := hb; have z0_ := Aside0.mk (Kd.R_drewN HWS.out nd); have z1_ := Aside0.mk (Kd.R_drewN HX0.out nd); have z2_ := Aside0.mk (Kd.S_drewN HX1.out nd); have z3_ := Aside0.mk (Kd.R_drewN HG.out nd); clear HWS HX0 HX1 HG; have HWS := z0_; have HX0 := z1_; have HX1 := z2_; have HG := z3_; clear z0_ z1_ z2_ z3_; have n0_ := Aside0.mk (pw_below_drewN HB.out nd); clear HB; have HB := n0_; clear n0_) | (have z0_ := Aside0.mk (Kd.R_below HWS.out hb); have z1_ := Aside0.mk (Kd.R_below HX0.out hb); have z2_ := Aside0.mk (Kd.S_below HX1.out hb); have z3_ := Aside0.mk (Kd.R_below HG.out hb); clear HWS HX0 HX1 HG; have HWS := z0_; have HX0 := z1_; have HX1 := z2_; have HG := z3_; clear z0_ z1_ z2_ z3_; have n0_ := Aside0.mk (below_step HB.out hb); clear HB; have HB := n0_; clear n0_; clear hb)))
    | (go_at_call 23; have t_ := TM0; clear t_ TM0; have LT0 := Aside0.mk (show n0 ≤ n1 by have := LEn0.out; have := LEn1.out; omega); have LS0_HX1 := Aside0.mk (show n0 ≤ n0 by have := LEn0.out; have := LEn1.out; omega); refine (laws_markInt64S.calls k (fun k_ => nw ≤ k_ ∧ k_ < n0) _ a0 1 m0 u0 w _ HB.out HX0.out HMK0.out).mono ?_; rintro e wm ⟨rfl, hy, hb, hk⟩; have z0_ := Aside0.mk (Kd.R_kept HWS.out hk (fun k_ a_ b_ => Nat.not_lt.2 (Nat.le_trans (Nat.le_refl _) b_.1) a_)); have z1_ := Aside0.mk (Kd.S_kept HX1.out hk (fun k_ a_ b_ => Nat.not_lt.2 (Nat.le_trans LS0_HX1.out a_.1) b_.2)); have z2_ := Aside0.mk (Kd.R_kept HG.out hk (fun k_ a_ b_ => Nat.not_lt.2 (Nat.le_trans LT0.out a_) b_.2)); clear HWS HX1 HG; have HWS := z0_; have HX1 := z1_; have HG := z2_; clear z0_ z1_ z2_; clear HB HX0 hk; have HB := Aside0.mk hb; clear hb hy)
    | (go_at_call 45; have t_ := TM1; clear t_ TM1; have LEW1 := Aside0.mk (show nw ≤ n0 by have := LEn0.out; omega); have LT1 := Aside0.mk (show n1 ≤ n1 by have := LEn0.out; have := LEn1.out; omega); refine (laws_markInt64SS.calls_ k (fun k_ => n0 ≤ k_ ∧ k_ < n1) _ a1 m0 m1 w _ HB.out HX1.out HMK1.out).mono ?_; rintro e wm ⟨rfl, hb, hk⟩; have z0_ := Aside0.mk (Kd.R_kept HWS.out hk (fun k_ a_ b_ => Nat.not_lt.2 (Nat.le_trans LEW1.out b_.1) a_)); have z1_ := Aside0.mk (Kd.R_kept HG.out hk (fun k_ a_ b_ => Nat.not_lt.2 (Nat.le_trans LT1.out a_) b_.2)); clear HWS HG; have HWS := z0_; have HG := z1_; clear z0_ z1_; clear HB HX1 hk; have HB := Aside0.mk hb; clear hb)
    | (go_at_call 18; have t_ := TE2; clear t_ TE2; refine (laws_eqInt64S.calls k _ _ g1 _ _ ws true _ (Kd.R_reads' HG.out).2.2 (Kd.R_reads' HG.out).2.1 (Kd.R_reads' HWS.out).2.2 (Kd.R_reads' HWS.out).2.1 HEQ.out).mono ?_; rintro e we ⟨rfl, hb⟩; (first | (obtain ⟨nd, rfl⟩ := hb; have z0_ := Aside0.mk (Kd.R_drewN HWS.out nd); have z1_ := Aside0.mk (Kd.R_drewN HG.out nd); clear HWS HG; have HWS := z0_; have HG := z1_; clear z0_ z1_; have n0_ := Aside0.mk (pw_below_drewN HB.out nd); clear HB; have HB := n0_; clear n0_) | (have z0_ := Aside0.mk (Kd.R_below HWS.out hb); have z1_ := Aside0.mk (Kd.R_below HG.out hb); clear HWS HG; have HWS := z0_; have HG := z1_; clear z0_ z1_; have n0_ := Aside0.mk (below_step HB.out hb); clear HB; have HB := n0_; clear n0_; clear hb)))
    | (go_at_call 23; have t_ := TG; clear t_ TG; refine (laws_markInt64S.calls k (fun k_ => n1 ≤ k_) _ g1 1 q gm w _ HB.out HG.out H8.out).mono ?_; rintro e wm ⟨rfl, hy, hb, hk⟩; have z0_ := Aside0.mk (Kd.R_kept HWS.out hk (fun k_ a_ b_ => by have := LEn0.out; have := LEn1.out; omega)); clear HB HWS HG hk; have HB := Aside0.mk hb; have HWS := z0_; have HG := Aside0.mk hy; clear z0_ hb hy; have GL := Aside0.mk (Kd.R_reads' HG.out).1)
    | (go_at_call 24; have t_ := TH1; clear t_ TH1; rw [GL.out]; refine (laws_heldInt64S.calls k _ _ gm 1 q _ (Kd.R_reads' HG.out).2.2 (by rw [← GL.out]; exact (Kd.R_reads' HG.out).2.1) H9.out).mono ?_; rintro e we ⟨rfl, hb⟩; (first | (obtain ⟨nd, rfl⟩ := hb; have z0_ := Aside0.mk (Kd.R_drewN HWS.out nd); have z1_ := Aside0.mk (Kd.R_drewN HG.out nd); clear HWS HG; have HWS := z0_; have HG := z1_; clear z0_ z1_; have n0_ := Aside0.mk (pw_below_drewN HB.out nd); clear HB; have HB := n0_; clear n0_) | (have z0_ := Aside0.mk (Kd.R_below HWS.out hb); have z1_ := Aside0.mk (Kd.R_below HG.out hb); clear HWS HG; have HWS := z0_; have HG := z1_; clear z0_ z1_; have n0_ := Aside0.mk (below_step HB.out hb); clear HB; have HB := n0_; clear n0_; clear hb)))
    | (go_at_call 16; have t_ := T6; clear t_ T6; refine (laws_toInt64S.calls k _ _ l0 a0 _ (Kd.C_below HR0.out HB.out) HC0.out HTA0.out).mono ?_; rintro e v9w ⟨v9, rfl, ho, hb⟩; have o_ := Aside0.mk (Kd.R_reads ho); have z0_ := Aside0.mk (Kd.R_below HWS.out hb); have z1_ := Aside0.mk (Kd.R_below HG.out hb); clear HWS HG; have HWS := z0_; have HG := z1_; clear z0_ z1_; have n0_ := Aside0.mk (below_step HB.out hb); clear HB; have HB := n0_; clear n0_; obtain ⟨Ax9, cx9, ex9, lx9, rx9⟩ := o_.out; subst ex9; have CA0 := Aside0.mk rx9; have LA0 := Aside0.mk lx9; clear o_ ho hb rx9 lx9)
    | (go_at_call 42; have t_ := T7; clear t_ T7; refine (laws_toInt64SS.calls k _ _ l1 a1 _ (Kd.C_below HR1.out HB.out) HC1.out HTA1.out).mono ?_; rintro e v10w ⟨v10, rfl, ho, hb⟩; have o_ := Aside0.mk (Kd.S_reads ho); have z0_ := Aside0.mk (Kd.R_below HWS.out hb); have z1_ := Aside0.mk (Kd.R_below HG.out hb); have z2_ := Aside0.mk (Kd.C_below CA0.out hb); clear HWS HG CA0; have HWS := z0_; have HG := z1_; have CA0 := z2_; clear z0_ z1_ z2_; have n0_ := Aside0.mk (below_step HB.out hb); clear HB; have HB := n0_; clear n0_; obtain ⟨Ax10, cx10, ex10, lx10, rx10⟩ := o_.out; subst ex10; have CA1 := Aside0.mk rx10; have LA1 := Aside0.mk lx10; clear o_ ho hb rx10 lx10)
    | (go_at_call 48; have t_ := TI2; clear t_ TI2; refine (impl_FewestCopies.calls k _ _ a0 _ _ a1 g1 g2 _ CA0.out LA0.out CA1.out LA1.out HIM.out).mono ?_; rintro e v11w ⟨v11, rfl, ho, hb⟩; have o_ := Aside0.mk (Kd.R_reads ho); clear CA0 LA0 CA1 LA1; have z0_ := Aside0.mk (Kd.R_below HWS.out hb); have z1_ := Aside0.mk (Kd.R_below HG.out hb); clear HWS HG; have HWS := z0_; have HG := z1_; clear z0_ z1_; have n0_ := Aside0.mk (below_step HB.out hb); clear HB; have HB := n0_; clear n0_; obtain ⟨Ax11, cx11, ex11, lx11, rx11⟩ := o_.out; subst ex11; have CH := Aside0.mk rx11; have LH := Aside0.mk lx11; clear o_ ho hb rx11 lx11)
    | (go_at_call 18; have t_ := TE3; clear t_ TE3; refine (laws_eqInt64S.calls k _ _ g1 _ _ ws true _ CH.out LH.out (Kd.R_reads' HWS.out).2.2 (Kd.R_reads' HWS.out).2.1 HEQ.out).mono ?_; rintro e we ⟨rfl, hb⟩; clear CH LH; (first | (obtain ⟨nd, rfl⟩ := hb; have z0_ := Aside0.mk (Kd.R_drewN HWS.out nd); have z1_ := Aside0.mk (Kd.R_drewN HG.out nd); clear HWS HG; have HWS := z0_; have HG := z1_; clear z0_ z1_; have n0_ := Aside0.mk (pw_below_drewN HB.out nd); clear HB; have HB := n0_; clear n0_) | (have z0_ := Aside0.mk (Kd.R_below HWS.out hb); have z1_ := Aside0.mk (Kd.R_below HG.out hb); clear HWS HG; have HWS := z0_; have HG := z1_; clear z0_ z1_; have n0_ := Aside0.mk (below_step HB.out hb); clear HB; have HB := n0_; clear n0_; clear hb)))
    | (go_at_call 24; have t_ := TH2; clear t_ TH2; rw [GL.out]; refine (laws_heldInt64S.calls k _ _ gm 1 q _ (Kd.R_reads' HG.out).2.2 (by rw [← GL.out]; exact (Kd.R_reads' HG.out).2.1) H9.out).mono ?_; rintro e we ⟨rfl, hb⟩; (first | (obtain ⟨nd, rfl⟩ := hb; have z0_ := Aside0.mk (Kd.R_drewN HWS.out nd); have z1_ := Aside0.mk (Kd.R_drewN HG.out nd); clear HWS HG; have HWS := z0_; have HG := z1_; clear z0_ z1_; have n0_ := Aside0.mk (pw_below_drewN HB.out nd); clear HB; have HB := n0_; clear n0_) | (have z0_ := Aside0.mk (Kd.R_below HWS.out hb); have z1_ := Aside0.mk (Kd.R_below HG.out hb); clear HWS HG; have HWS := z0_; have HG := z1_; clear z0_ z1_; have n0_ := Aside0.mk (below_step HB.out hb); clear HB; have HB := n0_; clear n0_; clear hb))))
  go_ret
  exact ⟨rfl, by have q := HB.out; (try rw [World.drewN_drewN] at q); exact q⟩

def laws_FnExactFewestCopies.Pure : Prop := ∀ (l0 : List Int) (l1 : List (List Int)), l0.length ≤ maxLen → l0.length * 8 ≤ 140737488351232 → (∀ x ∈ l0, (Lit.int .i64 x).wf = true) → l1.length ≤ maxLen → l1.length * 24 ≤ 140737488351232 → (∀ x ∈ l1, x.length ≤ maxLen ∧ ∀ n_ ∈ x, (Lit.int .i64 n_).wf = true) → ∃ k, laws_FnExactFewestCopies.f k l0 l1 = some true
theorem laws_FnExactFewestCopies.walk (P : laws_FnExactFewestCopies.Pure) (a0 : Option Addr) (len0 cap0 : Nat) (z0 : List Int) (a1 : Option Addr) (len1 cap1 : Nat) (l1 : List (List Int)) (w : World) (w0 : (a0 = none ∧ len0 = 0 ∧ cap0 = 0 ∧ z0 = []) ∨ ∃ x, a0 = some x ∧ len0 ≤ cap0 ∧ cap0 ≤ maxLen ∧ z0.length = cap0 ∧ (∀ i, i < z0.length → w.cell? (x.add i) = some (.int .i64 (z0.getD i 0))) ∧ ∀ n ∈ z0, (Lit.int .i64 n).wf = true) (y0 : len0 * 8 ≤ 140737488351232) (w1 : Kd.C (Kd.slice 2 (Kd.int .i64)) w a1 len1 l1 ∧ len1 ≤ cap1 ∧ len1 ≤ maxLen ∧ ∀ x ∈ l1, x.length ≤ maxLen ∧ ∀ n_ ∈ x, (Lit.int .i64 n_).wf = true) (y1 : len1 * 24 ≤ 140737488351232) :
    Calls Try.prog 12 #[.slice a0 len0 cap0, .slice a1 len1 cap1] w fun e w' => e = .returned (.bool true) ∧ Below w.heap.size w w' := by
  obtain ⟨l0, rfl, hr0, hm0, hw0, hc0⟩ := ReadsInt.ofRowC w0
  obtain ⟨hr1, hc1, hm1, hw1⟩ := w1
  obtain rfl : l1.length = len1 := hr1.1
  obtain ⟨k, h⟩ := P l0 l1 hm0 y0 hw0 hm1 y1 hw1
  refine (laws_FnExactFewestCopies.calls k _ _ l0 _ _ l1 true w (Kd.C_of_reads (d := (0 : Int)) (h1 := fun _ => rfl) hr0) hc0 hr1 hc1 h).mono ?_
  rintro e w' ⟨rfl, hd⟩
  exact ⟨rfl, hd⟩

end Go.Proofs.Ytfajacoagaamlaa.QFnExactFewestCopies
