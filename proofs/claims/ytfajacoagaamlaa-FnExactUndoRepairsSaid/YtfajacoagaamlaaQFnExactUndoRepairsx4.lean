/- Walks of the Go functions that the law FnExactUndoRepairs reaches: written by a program of this session. -/
import Derived.Test.YtfajacoagaamlaaQFnExactUndoRepairsx0
import Derived.Test.YtfajacoagaamlaaQFnExactUndoRepairsx3
namespace Go.Proofs.Ytfajacoagaamlaa.QFnExactUndoRepairs
open Go.RowKit Go.Proofs.YtfajacoagaamlaaW.PrintWords Go.Proofs.YtfajacoagaamlaaW.PrintLast Go.Proofs.YtfajacoagaamlaaW.PrintMore
attribute [local go_sem] max2_int min2_int max_two min_two max_three min_three max_four min_four   -- for this text's walks alone
set_option linter.unusedVariables false
set_option linter.unusedSimpArgs false

/-! ### impl_UndoRepairs: function 39 -/
section
open Go.Shelf
attribute [local go_sem] Oper.semAt_some
/-- What has come when k rounds are over: the last ones first, each with its place. -/
def bw (zs : List S64) (k : Nat) : List (Int × S64) := (List.range k).map fun j => (((zs.length - 1 - j : Nat) : Int), rd_T64 zs ((zs.length - 1 - j : Nat) : Int))
theorem bw_succ (zs : List S64) (k : Nat) : bw zs (k + 1) = bw zs k ++ [(((zs.length - 1 - k : Nat) : Int), rd_T64 zs ((zs.length - 1 - k : Nat) : Int))] := by simp [bw, List.range_succ]
theorem bw_length (zs : List S64) (k : Nat) : (bw zs k).length = k := by simp [bw]
def bwKp (n₀ Bs : Nat) (W W' : World) : Prop := Below n₀ W W' ∧ ∀ v, Boxed W Bs 41 v → Boxed W' Bs 41 v
def bwEnc (x : Int × S64) : Array Value := #[.int .i64 x.1, .agg #[.int .i64 x.2.f0, .int .i64 x.2.f1, .int .i64 x.2.f2]]
set_option maxRecDepth 100000 in
set_option maxHeartbeats 4000000 in
theorem back1_in (F : Fence) (n : Nat) (hF : F.fn 104) (hro : F.round = none) (hn : 1 ≤ n) (l Bs n₀ : Nat) (A : Option Addr) (cap : Nat) (zs : List S64) (hA : 0 < zs.length → ∀ ad, A = some ad → ad.block < n₀) (hmax : zs.length ≤ 9223372036854775807) (J Jx : List (Int × S64) → World → Prop)
    (hY : ∀ pre x W, J pre W → pre.length < zs.length → YieldAt F (n - 1) Try.prog l (bwEnc x) W fun e W' =>
      (e = .returned (.bool true) ∧ J (pre ++ [x]) W' ∧ bwKp n₀ Bs W W') ∨ (e = .returned (.bool false) ∧ Jx (pre ++ [x]) W'))
    (W : World) (hn₀ : n₀ ≤ W.heap.size) (hBs : Boxed W Bs 41 (.slice A zs.length cap)) (hc : Kd.C k64 W A zs.length zs) (h0 : J [] W) :
    CallsIn F n Try.prog 104 #[.func (.yield l) #[] #[], .pointer (some ⟨Bs, 0, none⟩)] W fun e W' => (∃ v, e = .returned v) ∧
      ((∃ ys, ys = bw zs zs.length ∧ J ys W') ∨ (∃ pre, True ∧ Jx pre W')) := by
  refine callsIn_of_wp Try.func104 rfl hF ?_ hro
  simp only [Try.ntmps104, List.size_toArray, List.length_cons, List.length_nil, Nat.reduceAdd, Nat.reduceSub, Array.replicate_succ, Array.replicate_zero, List.push_toArray, List.append_toArray, List.nil_append, List.cons_append]
  have hcell := hBs.cell
  have hneg : ¬ (zs.length : Int) < 0 := by omega
  have hw1 : wrap64 ((zs.length : Int) - 1) = (zs.length : Int) - 1 := by unfold wrap64; omega
  gi_wp2
  gi_loopw [3] (fun i wr => ∃ k : Nat, k ≤ zs.length ∧ (k < zs.length → i = .int .i64 ((zs.length - 1 - k : Nat) : Int)) ∧ (k = zs.length → i = .int .i64 (-1)) ∧ J (bw zs k) wr ∧ Below n₀ W wr ∧ Boxed wr Bs 41 (.slice A zs.length cap))
    (fun i _ => (intOf i + 1).toNat)
  case atStart =>
    refine ⟨0, Nat.zero_le _, fun h => ?_, fun h => ?_, h0, Below.refl _ _, hBs⟩
    · rw [show ((zs.length - 1 - 0 : Nat) : Int) = (zs.length : Int) - 1 by omega]
    · rw [← h]; rfl
  case round =>
    obtain ⟨k, hk, hi1, hi2, hJs, hnx, hbx⟩ := hrel
    have hcb := hbx.cell
    by_cases hlt : k < zs.length
    · obtain rfl := hi1 hlt
      clear hi1 hi2
      obtain ⟨fn, tmps, assign, body, hy, hR⟩ := hY _ (((zs.length - 1 - k : Nat) : Int), rd_T64 zs ((zs.length - 1 - k : Nat) : Int)) wr hJs (by rw [bw_length]; exact hlt)
      dsimp only [bwEnc] at hy
      have hm0 : zs.length - 1 - k < zs.length := by omega
      have hnxt : k + 1 < zs.length → ((zs.length - 1 - k : Nat) : Int) - 1 = ((zs.length - 1 - (k + 1) : Nat) : Int) := fun h => by omega
      have hend : k + 1 = zs.length → zs.length - 1 - k = 0 := fun h => by omega
      have hbw := bw_succ zs k
      generalize zs.length - 1 - k = m at *
      have hmz : ¬ (m : Int) < 0 := by omega
      have hm1 : (m : Int) < (zs.length : Int) := by omega
      have hmw : wrap64 ((m : Int) - 1) = (m : Int) - 1 := by unfold wrap64; omega
      obtain ⟨ad, hA2, hx0, hx1, hx2⟩ := at_T64 hc (m : Int) (by omega) hm1
      subst hA2
      rw [Int.toNat_natCast] at hx0 hx1 hx2
      have hb0 : ad.block < n₀ := hA (by omega) ad rfl
      replace hx0 := (hnx.cell (p := ad.add (m * 3)) (by rw [show (ad.add (m * 3)).block = ad.block from by unfold Addr.add; split <;> rfl]; exact hb0)).trans hx0
      replace hx1 := (hnx.cell (p := ⟨(ad.add (m * 3)).block, (ad.add (m * 3)).off + 1, none⟩) (by show (ad.add (m * 3)).block < n₀; rw [show (ad.add (m * 3)).block = ad.block from by unfold Addr.add; split <;> rfl]; exact hb0)).trans hx1
      replace hx2 := (hnx.cell (p := ⟨(ad.add (m * 3)).block, (ad.add (m * 3)).off + 2, none⟩) (by show (ad.add (m * 3)).block < n₀; rw [show (ad.add (m * 3)).block = ad.block from by unfold Addr.add; split <;> rfl]; exact hb0)).trans hx2
      gi_wp2
      refine hR.mono ?_
      rintro e W3 (⟨rfl, hJ3, hk3⟩ | ⟨rfl, hJx3⟩)
      · gi_wp2
        go_roundw
        case rel =>
          refine ⟨k + 1, by omega, fun h => ?_, fun h => ?_, ?_, hnx.trans hk3.1, hk3.2 _ hbx⟩
          · rw [← hnxt h]
          · rw [show (m : Int) - 1 = -1 by have := hend h; omega]
          · rw [hbw]; exact hJ3
        case measure => first | (simp [intOf]; done) | (simp [intOf]; omega)
      · gi_wp2
        refine bodyPost_ret (results_none rfl _ _ _) rfl ?_
        exact ⟨⟨_, rfl⟩, .inr ⟨_, trivial, hJx3⟩⟩
    · obtain rfl : k = zs.length := by omega
      obtain rfl := hi2 rfl
      clear hi1 hi2
      gi_wp2
      go_end0
      exact ⟨⟨_, rfl⟩, .inl ⟨_, rfl, hJs⟩⟩
set_option maxHeartbeats 2000000 in
theorem back_in (F : Fence) (n : Nat) (hF : F.fn 73) (hro : F.round = none) (A : Option Addr) (len cap : Nat) (w : World) :
    CallsIn F n Try.prog 73 #[.slice A len cap] w fun e w' => e = .returned (.func (.func 104) #[] #[.pointer (some ⟨w.heap.size, 0, none⟩)]) ∧ w' = w.alloc (.cells #[.slice A len cap] 41) := by
  refine callsIn_of_wp Try.func73 rfl hF ?_ hro
  simp only [Try.ntmps73, List.size_toArray, List.length_cons, List.length_nil, Nat.reduceAdd, Nat.reduceSub, Array.replicate_succ, Array.replicate_zero, List.push_toArray, List.append_toArray, List.nil_append, List.cons_append]
  gi_wp2
  go_ret
  exact ⟨rfl, rfl⟩
theorem back_stops (F : Fence) (n : Nat) (hF : F.fn 104) (hro : F.round = none) (hn : 1 ≤ n) (Bs n₀ : Nat) (A : Option Addr) (cap : Nat) (zs : List S64) (hA : 0 < zs.length → ∀ ad, A = some ad → ad.block < n₀) (hmax : zs.length ≤ 9223372036854775807) (w : World) (hB : Bs < w.heap.size) (hn₀ : n₀ ≤ w.heap.size)
    (hBs : Boxed w Bs 41 (.slice A zs.length cap)) (hc : Kd.C k64 w A zs.length zs) :
    SeqStopsK F n Try.prog 104 #[.pointer (some ⟨Bs, 0, none⟩)] bwEnc (bwKp n₀ Bs) (fun ys => ys = bw zs zs.length) (fun _ => True) zs.length w := fun l J Jx W hW _ _ hY h0 =>
  back1_in F n hF hro hn l Bs n₀ A cap zs hA hmax J Jx hY W (Nat.le_trans hn₀ hW.size) ((hW.block Bs hB).trans hBs) (Kd.C_below hc hW) h0
theorem bwKp_t {n₀ Bs : Nat} {A B C : World} (h : bwKp n₀ Bs A B) (k : bwKp n₀ Bs B C) : bwKp n₀ Bs A C := ⟨h.1.trans k.1, fun v hv => k.2 v (h.2 v hv)⟩
theorem bwKp_b {n₀ Bs : Nat} {w : World} (hn : n₀ ≤ w.heap.size) (hB : Bs < w.heap.size) (W : World) (l : Nat) (o o' : Obj) (hl : w.heap.size ≤ l) (h : W.heap[l]? = some o) (h1 : o.isCells = false) (h2 : o.isWalk = false) : bwKp n₀ Bs W (W.putObj l o') :=
  ⟨belowK_b hn W l o o' hl h h1 h2, fun v hv => hv.kept (grownBy_putObj' W l o') (fun e => by cases e; omega)⟩
/-- A step that is turned. -/
def turn (x : S64) : S64 := ⟨x.f0, x.f2, x.f1⟩
def turnOf (pre : List (Int × S64)) : List S64 := pre.map fun x => turn x.2
def flat (l : List S64) : List Value := l.flatMap fun x => [.int .i64 x.f0, .int .i64 x.f1, .int .i64 x.f2]
theorem flat_snoc (l : List S64) (x : S64) : flat (l ++ [x]) = flat l ++ [.int .i64 x.f0, .int .i64 x.f1, .int .i64 x.f2] := by simp [flat]
theorem flat_len : ∀ l : List S64, (flat l).length = l.length * 3
  | [] => rfl
  | x :: l => by
    have := flat_len l
    show ((Value.int .i64 x.f0) :: (Value.int .i64 x.f1) :: (Value.int .i64 x.f2) :: flat l).length = _
    simp [this]; omega
theorem flat_reps (w : World) : ∀ l : List S64, Reps (k64.K w) 3 l (flat l) := by
  intro l
  have : ∀ (n : Nat) (l : List S64), l.length = n → Reps (k64.K w) 3 l (flat l) := by
    intro n
    induction n with
    | zero => intro l hl; obtain rfl := List.eq_nil_of_length_eq_zero hl; exact Reps.none _ _
    | succ n ih =>
      intro l hl
      have hne : l ≠ [] := by intro e; rw [e] at hl; simp at hl
      have e := List.dropLast_concat_getLast hne
      rw [← e, flat_snoc]
      exact Reps.snoc (ih _ (by simp; omega)) (k64_mk w _) rfl
  exact this l.length l rfl
/-- A box of a step. -/
def Box3 (W : World) (B : Nat) (x : S64) : Prop := W.heap[B]? = some (.cells #[.int .i64 x.f0, .int .i64 x.f1, .int .i64 x.f2] 64 (0, 0))
theorem Box3.lt {W : World} {B : Nat} {x : S64} (h : Box3 W B x) : B < W.heap.size := (Array.getElem?_eq_some_iff.1 h).1
theorem Box3.kept {W W' : World} {row : Option Nat} {B : Nat} {x : S64} (h : Box3 W B x) (hg : W.grownBy W' row) (hne : some B ≠ row) : Box3 W' B x := (hg.block B h.lt hne).trans h
theorem Box3.own (B : Nat) (x : S64) : Own (fun (_ : Unit) W => Box3 W B x) := fun s X Y row hs hg hrow =>
  hs.kept hg (fun e => by obtain ⟨o, ho, hc⟩ := hrow _ e.symm; rw [show X.heap[B]? = _ from hs] at ho; cases ho; cases hc)
theorem Box3.c0 {W : World} {B : Nat} {x : S64} (h : Box3 W B x) : W.cell? ⟨B, 0, none⟩ = some (.int .i64 x.f0) := by simp [World.cell?, show W.heap[B]? = _ from h]
theorem Box3.c1 {W : World} {B : Nat} {x : S64} (h : Box3 W B x) : W.cell? ⟨B, 1, none⟩ = some (.int .i64 x.f1) := by simp [World.cell?, show W.heap[B]? = _ from h]
theorem Box3.c2 {W : World} {B : Nat} {x : S64} (h : Box3 W B x) : W.cell? ⟨B, 2, none⟩ = some (.int .i64 x.f2) := by simp [World.cell?, show W.heap[B]? = _ from h]
def impl_UndoRepairs.f (k : Nat) (l0 : List Int) (l1 : List S64) : Option (List Int × Int) := (impl_stepsCode.f l0 l1).bind fun t => if t = 0 then (if l1.length ≤ 1000 then impl_applyRepairs.f k l0 (l1.reverse.map turn) else none) else some ([], t)
theorem impl_UndoRepairs.mono : ∀ a0 a1 k, LeO (impl_UndoRepairs.f k a0 a1) (impl_UndoRepairs.f (k + 1) a0 a1) := fun _ _ _ => LeO.bind (LeO.refl _) (fun _ => LeO.ite (LeO.ite (impl_applyRepairs.mono _ _ _) (LeO.refl _)) (LeO.refl _))
theorem cells3_at {V : World} {B : Nat} {a b c : Value} (hn : V.heap[B]? = some (.cells #[a, b, c] 64 (0, 0))) (j : Nat) (u : Value) (h : ([a, b, c] : List Value)[j]? = some u) : V.cell? ((⟨B, 0, none⟩ : Addr).add j) = some u := by
  match j, h with
  | 0, h => rw [show ((⟨B, 0, none⟩ : Addr).add 0) = ⟨B, 0, none⟩ from rfl]; simp [World.cell?, hn]; simpa using h
  | 1, h => rw [show ((⟨B, 0, none⟩ : Addr).add 1) = ⟨B, 1, none⟩ from rfl]; simp [World.cell?, hn]; simpa using h
  | 2, h => rw [show ((⟨B, 0, none⟩ : Addr).add 2) = ⟨B, 2, none⟩ from rfl]; simp [World.cell?, hn]; simpa using h
theorem cells3_new (W : World) (a b c : Value) (j : Nat) (u : Value) (h : ([a, b, c] : List Value)[j]? = some u) : (W.alloc (.cells #[a, b, c] 64)).cell? ((⟨W.heap.size, 0, none⟩ : Addr).add j) = some u :=
  cells3_at (World.alloc_heap_new W _) j u h
theorem turn_bw (zs : List S64) : turnOf (bw zs zs.length) = zs.reverse.map turn := by
  unfold turnOf bw
  rw [List.map_map]
  apply List.ext_getElem
  · simp
  · intro i h1 h2
    have h3 : i < zs.length := by simpa using h1
    simp only [List.getElem_map, List.getElem_range, Function.comp, List.getElem_reverse]
    congr 1
    unfold rd_T64
    rw [Int.toNat_natCast, List.getD_eq_getElem?_getD, List.getElem?_eq_getElem (show zs.length - 1 - i < zs.length by omega)]; rfl
set_option maxRecDepth 100000 in
set_option maxHeartbeats 8000000 in
theorem impl_UndoRepairs.calls (k : Nat) (A0 : Option Addr) (c0 : Nat) (l0 : List Int) (A1 : Option Addr) (c1 : Nat) (l1 : List S64) (r1 : List Int) (r2 : Int) (w : World) (hr0 : Kd.C (Kd.int .i64) w A0 l0.length l0) (hc0 : l0.length ≤ c0) (hr1 : Kd.C k64 w A1 l1.length l1) (hc1 : l1.length ≤ c1) (h : impl_UndoRepairs.f k l0 l1 = some (r1, r2)) :
    Calls Try.prog 39 #[.slice A0 l0.length c0, .slice A1 l1.length c1] w fun e w' => ∃ v0_ : Value, e = .returned (.tuple #[v0_, .int .i64 r2]) ∧ Kd.R (Kd.int .i64) 2 w' w.heap.size (fun _ => True) v0_ r1 ∧ Below w.heap.size w w' := by
  unfold impl_UndoRepairs.f at h
  obtain ⟨cd, hcd, h⟩ := Option.bind_eq_some_iff.mp h
  have HCD := Aside0.mk hcd
  have HR0 := Aside0.mk hr0
  have HR1 := Aside0.mk hr1
  have HC0 := Aside0.mk hc0
  have HC1 := Aside0.mk hc1
  have HB := Aside0.mk (Below.refl w.heap.size w)
  have hmax := Kd.C_max hr1
  by_cases e0 : cd = 0
  case neg =>
    rw [if_neg e0] at h
    obtain ⟨rfl, rfl⟩ := Prod.mk.inj (Option.some.inj h)
    clear h hr0 hr1 hc0 hc1 hcd
    have e1 : (cd != 0) = true := bne_iff_ne.mpr e0
    go_enter Try.func39, Try.ntmps39
    go_wp2_with (go_at_call 70; refine (impl_stepsCode.calls _ _ l0 _ _ l1 cd _ HR0.out HC0.out HR1.out HC1.out HCD.out).mono ?_; rintro e w1 ⟨rfl, hb⟩; have n0_ := Aside0.mk (below_step HB.out hb); clear HB hb; have HB := n0_; clear n0_)
    go_ret2
    exact ⟨_, rfl, Kd.R_nil _ _ _ _ _, HB.out⟩
  subst e0
  rw [if_pos rfl] at h
  by_cases e1 : l1.length ≤ 1000
  case neg => rw [if_neg e1] at h; cases h
  rw [if_pos e1] at h
  have HAP := Aside0.mk h
  clear h hcd
  refine (callsIn_wide (n := 5)).1 ?_
  refine callsIn_of_wp_marks Try.func39 rfl trivial ?_ rfl
  simp only [Try.ntmps39, List.size_toArray, List.length_cons, List.length_nil, Nat.reduceAdd, Nat.reduceSub, Array.replicate_succ, Array.replicate_zero, List.push_toArray, List.append_toArray, List.nil_append, List.cons_append]
  gi_wp2_with (first | (refine ⟨trivial, ?_⟩; gi_at_call 70; refine (callsIn_wide.2 (impl_stepsCode.calls _ _ l0 _ _ l1 0 _ HR0.out HC0.out HR1.out HC1.out HCD.out)).mono ?_; rintro e w1 ⟨rfl, hb⟩; have n0_ := Aside0.mk (below_step HB.out hb); clear HB hb; have HB := n0_; clear n0_) | (gi_at_call 70; refine (callsIn_wide.2 (impl_stepsCode.calls _ _ l0 _ _ l1 0 _ HR0.out HC0.out HR1.out HC1.out HCD.out)).mono ?_; rintro e w1 ⟨rfl, hb⟩; have n0_ := Aside0.mk (below_step HB.out hb); clear HB hb; have HB := n0_; clear n0_) | (refine ⟨trivial, ?_⟩; gi_at_call 73; refine (back_in Fence.wide _ trivial rfl _ _ _ _).mono ?_; rintro e w2 ⟨rfl, rfl⟩) | (gi_at_call 73; refine (back_in Fence.wide _ trivial rfl _ _ _ _).mono ?_; rintro e w2 ⟨rfl, rfl⟩))
  have hsz1 := HB.out.size
  have hr1' := Kd.C_below HR1.out HB.out
  obtain ⟨i0, hi, hz0, hz1, hz2⟩ := info_parts info64
  have rO : (((w1.alloc (.cells #[] 64)).alloc (.cells #[.slice (some ⟨w1.heap.size, 0, none⟩) 0 0] 41)).alloc (.cells #[.slice A1 l1.length c1] 41)).ownsRow w.heap.size 64 3 (.slice (some ⟨w1.heap.size, 0, none⟩) 0 0) 0 [] := ((World.ownsRow_lit (base := w.heap.size) (e := 64) (size := 3) w1 #[] 0 hsz1 (by decide) rfl).alloc _).alloc _
  have bO := (Boxed.new (w1.alloc (.cells #[] 64)) 41 (.slice (some ⟨w1.heap.size, 0, none⟩) 0 0)).alloc (.cells #[.slice A1 l1.length c1] 41)
  have bS := Boxed.new ((w1.alloc (.cells #[] 64)).alloc (.cells #[.slice (some ⟨w1.heap.size, 0, none⟩) 0 0] 41)) 41 (.slice A1 l1.length c1)
  simp only [World.size_alloc] at bO bS
  have hB0 : Below w.heap.size w (((w1.alloc (.cells #[] 64)).alloc (.cells #[.slice (some ⟨w1.heap.size, 0, none⟩) 0 0] 41)).alloc (.cells #[.slice A1 l1.length c1] 41)) := ((HB.out.alloc hsz1 _).alloc (by simp; omega) _).alloc (by simp; omega) _
  have hC0 := Kd.C_below HR1.out hB0
  have hszW : (((w1.alloc (.cells #[] 64)).alloc (.cells #[.slice (some ⟨w1.heap.size, 0, none⟩) 0 0] 41)).alloc (.cells #[.slice A1 l1.length c1] 41)).heap.size = w1.heap.size + 3 := by simp
  have hAlt : 0 < l1.length → ∀ ad, A1 = some ad → ad.block < w.heap.size := fun h0 ad e => by
    obtain ⟨ad', e', hx, _⟩ := at_T64 HR1.out 0 (by omega) (by omega)
    rw [e] at e'
    cases e'
    exact World.block_lt_of_cell? w _ (by simpa [Addr.add] using hx)
  obtain ⟨W0, hW0⟩ : ∃ W0, ((w1.alloc (.cells #[] 64)).alloc (.cells #[.slice (some ⟨w1.heap.size, 0, none⟩) 0 0] 41)).alloc (.cells #[.slice A1 l1.length c1] 41) = W0 := ⟨_, rfl⟩
  rw [hW0] at rO bO bS hB0 hC0 hszW ⊢
  clear hW0
  refine wpIn_rangeFunc_ownH rfl (by omega) (gf := 104) (lb := #[.pointer (some ⟨w1.heap.size + 1 + 1, 0, none⟩)]) rfl trivial (enters_of Try.func104 (by kernel_rfl) rfl)
    (back_stops Fence.wide (5 - 1) trivial rfl (by omega) (w1.heap.size + 1 + 1) w.heap.size A1 c1 l1 hAlt hmax W0 (by omega) (by omega) bS hC0) bwKp_t (bwKp_b (by omega) (by omega)) (Below.refl _ _) (fun _ => rfl)
    (fun pre W => (∃ v, Boxed W (w1.heap.size + 1) 41 v ∧ W.ownsRow w.heap.size 64 3 v pre.length (flat (turnOf pre)) ∧ True) ∧ Boxed W (w1.heap.size + 1 + 1) 41 (.slice A1 l1.length c1) ∧ Below w.heap.size w W)
    (fun _ _ _ => False)
    (OwnFrom.and (Own.from (holdsRow_own w.heap.size (w1.heap.size + 1) 41 64 3 (fun pre => pre.length) (fun pre => flat (turnOf pre)) (fun _ _ => True)) _) (OwnFrom.and (Own.from (boxed_own _ _ _) _) (ownFrom_below (Nat.le_refl _) (by omega))))
    (fun _ _ _ _ _ hs _ _ => hs)
    ⟨⟨_, bO, rO, trivial⟩, bS, hB0⟩
    (fun x a' W => ∃ Bx, w1.heap.size + 1 + 1 < Bx ∧ Box3 W Bx x.2 ∧ a' = { tmps := #[.slice A0 l0.length c0, .slice A1 l1.length c1, undef, undef, .slice none 0 0, .int .i64 0, .int .i64 0, .pointer (some ⟨w1.heap.size + 1, 0, none⟩), undef, .pointer (some ⟨Bx, 0, none⟩), .slice A0 l0.length c0, .slice A1 l1.length c1, .int .i64 0, .int .i64 0, .bool false, undef, .slice (some ⟨w1.heap.size, 0, none⟩) 0 0, .slice A1 l1.length c1, .func (.func 104) #[] #[.pointer (some ⟨w1.heap.size + 1 + 1, 0, none⟩)], .int .i64 x.1, .agg #[.int .i64 x.2.f0, .int .i64 x.2.f1, .int .i64 x.2.f2], undef, undef, undef, undef, undef, undef, undef, undef, undef, undef, undef, undef, undef, undef, undef], defers := [] })
    (fun x a' _ X Y row hs hg hr => by obtain ⟨Bx, h1, h2, h3⟩ := hs; exact ⟨Bx, h1, Box3.own Bx x.2 () X Y row h2 hg (fun r e => (hr r e).2), h3⟩)
    ?assign ?body ?done ?stop
  case assign =>
    rintro l pre x W K ⟨⟨v, hv, hrow, _⟩, hbs, hB⟩ hK
    have hszz := hbs.lt
    dsimp only [bwEnc]
    gi_wp2
    exact hK _ _ ((KeepsOthers.alloc _ _).from _) ⟨(Below.refl _ W).alloc hB.size _, fun v hv => hv.alloc _⟩ ⟨⟨v, hv.alloc _, hrow.alloc _, trivial⟩, hbs.alloc _, hB.alloc hB.size _⟩ ⟨W.heap.size, hszz, World.alloc_heap_new W _, rfl⟩
  case body =>
    rintro l pre x a' W hl ⟨r, hr⟩ ⟨⟨v, hv, hrow, _⟩, hbs, hB⟩ ⟨Bx, hBx, bX, rfl⟩ hlt
    have hc := hv.cell
    have hx0 := bX.c0
    have hx1 := bX.c1
    have hx2 := bX.c2
    have hp1 : pre.length + 1 ≤ 1000 := by omega
    have hp2 : pre.length + 1 ≤ maxLen := Nat.le_trans hp1 (by decide)
    gi_wp2_with (gi_at_builtin; refine wpListIn_append_own _ rfl _ _ 41 rfl w.heap.size 64 i0 (.agg #[.int .i64 0, .int .i64 0, .int .i64 0]) 3 24 Try.underlying41 hi hz0 hz1 hz2 rfl (by decide) _ _ _ rfl (hrow.alloc _) ⟨W.heap.size, 0, none⟩ 1 1 [.int .i64 x.2.f0, .int .i64 x.2.f2, .int .i64 x.2.f1] rfl rfl (cells3_new W _ _ _) (by simp [Value.oneCell']) hp2 (by omega) (by have := hB.size; simp; omega) ?_; intro v' w3 hown' hgrow _; obtain ⟨g', cap', rfl⟩ := ownsRow_succ hown'; obtain ⟨hv1, hv2, hr2, hk2, hb2⟩ := hv.appended (by decide) hrow hB.size (by omega) hown' hgrow; have hc1 := hv1.cell; have hf1 := hv1.frozen)
    have hbk : ∀ u, Boxed W (w1.heap.size + 1 + 1) 41 u → Boxed (w3.setCell ⟨w1.heap.size + 1, 0, none⟩ (.slice (some ⟨g', 0, none⟩) (pre.length + 1) cap')) (w1.heap.size + 1 + 1) 41 u := fun u hu => ((hu.alloc _).kept hgrow (hu.not_row (by decide) hrow)).other (by omega) _
    exact ⟨hk2.from _, ⟨hb2, hbk⟩, ⟨_, hv2, by rw [show flat (turnOf (pre ++ [x])) = flat (turnOf pre) ++ [.int .i64 x.2.f0, .int .i64 x.2.f2, .int .i64 x.2.f1] from by simp [turnOf, flat, turn]]; simpa using hr2, trivial⟩, hbk _ hbs, hB.trans hb2⟩
  case done =>
    rintro D ys W hD rfl ⟨⟨v, hv, hrow, _⟩, hbs, hB⟩ hK
    rw [bw_length] at hrow
    have hcap : ∀ A c, v = .slice A l1.length c → l1.length ≤ c := by
      intro A c e
      rcases hrow.2 with ⟨e0, h0⟩ | ⟨g, cap, cur, e0, _, _, hn, _⟩
      · rw [e0] at e; injection e with _ e2 _; omega
      · rw [e0] at e; injection e with _ e2 e3; omega
    have hle : (turnOf (bw l1 l1.length)).length = l1.length := by simp [turnOf, bw_length]
    obtain ⟨A2, c2, rfl, hRR⟩ := own_reads_row hrow (flat_reps W (turnOf (bw l1 l1.length))) hle
    have hcap := hcap A2 c2 rfl
    rw [turn_bw] at hRR hle
    have hRC : Kd.C k64 W A2 (l1.reverse.map turn).length (l1.reverse.map turn) := by rw [hle]; exact hRR
    have hAC := impl_applyRepairs.calls k A0 c0 l0 A2 c2 (l1.reverse.map turn) r1 r2 W (Kd.C_below HR0.out hB) HC0.out hRC (by rw [hle]; exact hcap) HAP.out
    rw [hle] at hAC
    have HAC := Aside0.mk hAC
    have hc := hv.cell
    have hlt := (Array.getElem?_eq_some_iff.1 hK).1
    clear hAC hRC hRR hrow
    gi_wp2_with (first | (refine ⟨trivial, ?_⟩; gi_at_call 71; refine (callsIn_wide.2 HAC.out).mono ?_; rintro e w5 ⟨v5, rfl, ho, hb5⟩) | (gi_at_call 71; refine (callsIn_wide.2 HAC.out).mono ?_; rintro e w5 ⟨v5, rfl, ho, hb5⟩))
    have hK5 : w5.heap[D]? = some (.deferred (some [])) := (hb5.block D hlt).trans hK
    refine ⟨by simp, .inl ⟨_, _, rfl, run_takeDeferred hK5, ?_⟩⟩
    exact ⟨_, results_tmp2 rfl _ _ _, v5, rfl, Kd.R_of_own (ownsRow_putObj (Kd.own_of_R (Kd.R_lower ho hB.size)) _ hK5 rfl) (fun _ _ => trivial), (hB.trans (hb5.mono hB.size)).trans (belowK_b (w := w) (Nat.le_refl _) w5 D _ _ (by omega) hK5 rfl rfl)⟩
  case stop =>
    rintro D c pre W _ _ h _
    exact h.elim
end


end Go.Proofs.Ytfajacoagaamlaa.QFnExactUndoRepairs
