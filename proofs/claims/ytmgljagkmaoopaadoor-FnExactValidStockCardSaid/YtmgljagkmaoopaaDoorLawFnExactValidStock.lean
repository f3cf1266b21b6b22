/- Walks of the Go functions that the law FnExactValidStock reaches: written by a program of this session. -/
import Derived.Test.YtmgljagkmaoopaaDoorRows
import Derived.Test.YtmgljagkmaoopaaDoorQFnExactValidStockx4
import Derived.Test.YtmgljagkmaoopaaDoorPureFnExactValidStock
import Derived.WalkKit
import Derived.ProofKit
import Derived.OpenShut
import Derived.ShutString
import Derived.ChangeOld
import Derived.Below
import Derived.SizedLaws
import Derived.LaidMore
import Derived.Lay
import Derived.SevenTiedAt
import Derived.Stop.Joined
import Derived.Test.YtmgljagkmaoopaaDoorCards
import Derived.Test.YtmgljagkmaoopaaDoorTie
import Derived.Test.YtmgljagkmaoopaaDoorWSized
import Derived.Test.YtmgljagkmaoopaaDoorOpen
namespace Go.Proofs.YtmgljagkmaoopaaDoor.fnExactValidStock
open Go.ChangeShapes Go.WideShapes Go.ChangeAt Go.RowKit
open Go.ChangeMaps (open_string shut_string)
set_option linter.unusedVariables false
theorem own : ownKnob Tryd.prog.godebug = none := by kernel_rfl
theorem laidOut : laidOutB Tryd.prog = true := by kernel_rfl
def IsRow (k : IntKind) (w : World) (a : Option Addr) (len cap : Nat) (zs : List Int) : Prop :=
  (a = none ∧ len = 0 ∧ cap = 0 ∧ zs = []) ∨
  ∃ x, a = some x ∧ len ≤ cap ∧ cap ≤ maxLen ∧ zs.length = cap ∧ (∀ i, i < zs.length → w.cell? (x.add i) = some (.int k (zs.getD i 0))) ∧ ∀ n ∈ zs, (Lit.int k n).wf = true
set_option maxRecDepth 100000 in
theorem lifted (os : Os) (started : os.Started) (H : Type) (enc : TypeId × Value → H) :
    ReturnsInHanded {} Tryd.checked os 3 .any (fun w args => (Rows.fnExactValidStockSpec.pre enc Tryd.prog Tryd.f3 Rows.fnExactValidStockRow.domain false w args ∧ laidMetH Tryd.prog Rows.fnExactValidStockRow.laid w) ∧ sizedMet enc Tryd.prog Tryd.f3 (OpenSpec.ofChange Rows.fnExactValidStockSpec) false w args) (Rows.fnExactValidStockSpec.post enc Tryd.prog Tryd.f3 false true false false) := by
  refine returnsInHanded_of_change_and (C := Tryd.checked) (X := fun w _ => laidMetH Tryd.prog Rows.fnExactValidStockRow.laid w) (fun _ _ _ hh h => h.of_heap hh) own started (by kernel_rfl) Tryd.func3
    (ChangeSpec.witness_shaped (enc := enc) (C := Tryd.checked) (os := os) (X := fun w _ => laidMetH Tryd.prog Rows.fnExactValidStockRow.laid w) false (World.laidAll Tryd.prog os Rows.fnExactValidStockRow.laid) #[.slice none 0 0] 8 (World.laidAll_os _ _ _)
      (World.shaped_of_ZipB (by kernel_rfl) (by kernel_rfl)) (by kernel_rfl) (by kernel_rfl) (by kernel_rfl)
      (by rw [MakeChecks.laidMetH_plain _ _ _ (by kernel_rfl)]; exact laidMet_laidAll _ (by kernel_rfl) (by kernel_rfl))) ?_
  intro W base args ds gs before hval0 hW hcnd hsz0 _ _
  have hsz : (DataW.weightsEach Tryd.prog (Tryd.f3.params.toList ++ Rows.fnExactValidStockSpec.plain.varTypes Tryd.prog) (ds ++ gs)).all (· ≤ reachBytes) = true := hsz0
  have hval : ∀ (j : Nat) t v, Tryd.f3.params[j]? = some t → args[j]? = some v → Value.okWide Tryd.prog W .any base t v := hval0
  have hW' := hW
  obtain ⟨p, q, hA0, hV, rfl, hfz, hnd⟩ := hW
  have hA : DataW.TrodAll enc Tryd.prog W 0 (fun _ => true) true Tryd.f3.params.toList args.toList ds p := hA0
  rw [Tryd.params3] at hA hval hsz
  obtain ⟨v0, vs0, d0, ds0, p0, q0, hargs, rfl, rfl, h0, r0⟩ := trodAll_cons hA
  obtain ⟨rfl, rfl, rfl⟩ := trodAll_nil r0
  obtain rfl : args = #[v0] := by cases args; simp_all
  obtain ⟨rfl, rfl⟩ := trodVars_none hV
  obtain ⟨a0, len0, cap0, rfl⟩ := okWide_slice Tryd.underlying22 (hval 0 22 v0 rfl rfl)
  have k0 := h0
  have lt0 : ∀ x ∈ p0, x.block < W.heap.size := by obtain ⟨m, hm⟩ := k0; exact DataW.trod_lt m _ _ _ hm
  obtain ⟨z0, w0, y0⟩ : ∃ zs : List QFnExactValidStock.S33, (Go.Proofs.YtmgljagkmaoopaaDoorW.PrintWords.Kd.C QFnExactValidStock.k33 W a0 len0 zs ∧ len0 ≤ cap0 ∧ len0 ≤ maxLen ∧ ∀ x ∈ zs, x.f0.size ≤ maxLen ∧ (Lit.int .i64 x.f1).wf = true ∧ (Lit.int .i64 x.f2).wf = true ∧ (Lit.int .i64 x.f3).wf = true) ∧ len0 * 40 ≤ 140737488351232 := by
    obtain ⟨fuel, hf⟩ := h0
    rcases Go.Deep.open_slice Tryd.underlying22 hf with ⟨hcs, _⟩ | ⟨x, l, c, m, n, D, Pl, hcs, _, hl, hm, hmm, hx, hi⟩
    · simp [Value.cells] at hcs
      obtain ⟨rfl, rfl, rfl⟩ := hcs
      exact ⟨[], ⟨⟨rfl, by decide, fun h => absurd h (Nat.lt_irrefl 0)⟩, Nat.le_refl _, Nat.zero_le _, by simp⟩, by omega⟩
    · simp [Value.cells] at hcs
      obtain ⟨rfl, rfl, rfl⟩ := hcs
      have hlm : len0 ≤ m := by rw [hmm]; split <;> omega
      have each : ∀ j, j < len0 → ∃ y : QFnExactValidStock.S33, (y.f0.size ≤ maxLen ∧ (Lit.int .i64 y.f1).wf = true ∧ (Lit.int .i64 y.f2).wf = true ∧ (Lit.int .i64 y.f3).wf = true) ∧ ∃ cs : List Value, cs.length = 4 ∧ QFnExactValidStock.k33.K W y cs ∧ ∀ q u, cs[q]? = some u → W.cell? (x.add (j * 4 + q)) = some u := by
        intro j hj
        obtain ⟨cs', hc, ht⟩ := hi j (by omega)
        obtain ⟨_, hcl, hat⟩ := World.cells?_some hc
        have hlen2 : cs'.length = 4 := hcl
        obtain ⟨c0, c1, c2, c3, rfl⟩ : ∃ c0 c1 c2 c3, cs' = [c0, c1, c2, c3] := by match cs', hlen2 with | [c0, c1, c2, c3], _ => exact ⟨_, _, _, _, rfl⟩
        obtain ⟨ys0, n0, _, _, _, hyl0, hg0⟩ := DataW.trod_struct (cs := [c0, c1, c2, c3]) Tryd.underlying33 ht
        have hyz0 : ys0.length = 4 := hyl0
        obtain ⟨b0_0, b0_1, b0_2, b0_3, rfl⟩ : ∃ b0_0 b0_1 b0_2 b0_3, ys0 = [b0_0, b0_1, b0_2, b0_3] := by match ys0, hyz0 with | [b0_0, b0_1, b0_2, b0_3], _ => exact ⟨_, _, _, _, rfl⟩
        have g0_0 := hg0 0 _ rfl
        obtain ⟨s0_0, e0_0, _, q0_0⟩ := DataW.trod_string Tryd.underlying9 (cs := [c0]) (x := b0_0) g0_0
        obtain rfl : c0 = _ := by injection e0_0
        have g0_1 := hg0 1 _ rfl
        obtain ⟨s0_1, e0_1, _, q0_1⟩ := DataW.trod_int (k := .i64) Tryd.underlying2 (cs := [c1]) (x := b0_1) g0_1
        obtain rfl : c1 = _ := by injection e0_1
        have g0_2 := hg0 2 _ rfl
        obtain ⟨s0_2, e0_2, _, q0_2⟩ := DataW.trod_int (k := .i64) Tryd.underlying2 (cs := [c2]) (x := b0_2) g0_2
        obtain rfl : c2 = _ := by injection e0_2
        have g0_3 := hg0 3 _ rfl
        obtain ⟨s0_3, e0_3, _, q0_3⟩ := DataW.trod_int (k := .i64) Tryd.underlying2 (cs := [c3]) (x := b0_3) g0_3
        obtain rfl : c3 = _ := by injection e0_3
        refine ⟨⟨s0_0, s0_1, s0_2, s0_3⟩, ⟨q0_0, q0_1, q0_2, q0_3⟩, [Value.string s0_0, .int .i64 s0_1, .int .i64 s0_2, .int .i64 s0_3], rfl, QFnExactValidStock.k33_mk W _, fun q u hq => ?_⟩
        have hql : q < 4 := by have := (List.getElem?_eq_some_iff.1 hq).1; simpa using this
        have := hat q hql
        rw [Go.Deep.add_add] at this
        exact this.trans hq
      obtain ⟨zs, hzl, hz⟩ := Open.rows_of _ len0 each
      refine ⟨zs, ⟨⟨hzl, Nat.le_trans (Nat.le_trans hl hm) (by decide), fun _ => ⟨x, rfl, fun j p hp => ?_⟩⟩, hl, by omega, fun y hy => ?_⟩, ?_⟩
      · obtain ⟨_, cs, h1, h2, h3⟩ := hz j p hp
        exact ⟨cs, h1, h2, h3⟩
      · obtain ⟨j, hj⟩ := List.getElem?_of_mem hy
        exact (hz j y hj).1
      · obtain ⟨hx, _⟩ := Prod.mk.inj hx
        subst hx
        have z := sized_slice hsz (j := 0) (t := 22) rfl rfl Tryd.underlying22
        have zb : Tryd.prog.bytesOf 33 = 40 := by kernel_rfl
        rw [zb] at z
        simp only [List.length_map, List.length_range] at z
        have z2 : (len0 + (m - len0)) * 40 ≤ 140737488351232 := z
        omega
  clear hA0 hval0 hsz0 hsz
  refine (QFnExactValidStock.laws_FnExactValidStock.walk Pure.FnExactValidStock a0 len0 cap0 z0 W w0 y0).mono fun e W' ⟨he, bel⟩ => ?_
  subst he
  exact ⟨_, rfl, _, _, _, [], _, [], hW', trodAll_mk1 (shut_bool Tryd.underlying4 _), (trodAll_cons_mk (Below.trod laidOut (by kernel_rfl) (of_decide_eq_true (by kernel_rfl)) k0 bel lt0) trodAll_mk0), rfl, bel.frame _, fun h => by cases h⟩
theorem over : Rows.fnExactValidStockRow.holds Tryd.pinned (OpenSpec.ofChange Rows.fnExactValidStockSpec) :=
  OpenClaim.holds_of_wide 3 Tryd.f3 rfl rfl rfl rfl rfl rfl rfl ⟨rfl, rfl, rfl, rfl, rfl⟩ rfl rfl rfl rfl rfl (by kernel_rfl) Tryd.func3 (by kernel_rfl)
    (of_decide_eq_true (by kernel_rfl)) (by unfold Func.isWrapper; first | (rw [if_pos (by decide +kernel)]; kernel_rfl) | (rw [if_neg (by decide +kernel)]; exact ⟨rfl, rfl⟩))
    (fun os started H enc _ => lifted os started H enc)
theorem card : Rows.FnExactValidStockCardSaid :=
  Claim7.holds_tied_plain_at .later [] [.data, .pinned] true (true, "107edfe363566b1d2751abc4573790e4d9ba6c624a89913290b8dfa804b3cf38") false over (fun _ h => by cases h) (by kernel_rfl) (fun _ h => by cases h) fnExactValidStock_row_tie rfl ⟨rfl, rfl⟩ (by kernel_rfl) rfl
    (fun f fn hf hfn => by
      obtain rfl : f = 3 := Option.some.inj ((show Tryd.prog.funcNamed Tryd.f3.name = some 3 by kernel_rfl).symm.trans hf) |>.symm
      obtain rfl : fn = Tryd.f3 := (Option.some.inj (Tryd.func3.symm.trans hfn)).symm
      exact ⟨by kernel_rfl, fun j t ht => by
        rw [Tryd.params3] at ht
        have hm : t ∈ [22] := by simpa using Array.mem_of_getElem? ht
        have hall : ([22].all fun u => !Tryd.prog.wantsStandIn u) = true := by kernel_rfl
        exact (show Tryd.prog.wantsStandIn t = false by simpa using List.all_eq_true.1 hall t hm)⟩)
    (by kernel_rfl)
#print axioms card
end Go.Proofs.YtmgljagkmaoopaaDoor.fnExactValidStock
namespace Go.Proofs.YtmgljagkmaoopaaDoor
/-- The row, under a short name, for the claim. -/
theorem fnExactValidStock_holds : Rows.FnExactValidStockCardSaid := fnExactValidStock.card
end Go.Proofs.YtmgljagkmaoopaaDoor
