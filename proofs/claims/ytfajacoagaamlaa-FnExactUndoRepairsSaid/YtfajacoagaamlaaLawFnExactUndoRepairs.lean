/- Walks of the Go functions that the law FnExactUndoRepairs reaches: written by a program of this session. -/
import Derived.Test.YtfajacoagaamlaaRows
import Derived.Test.YtfajacoagaamlaaQFnExactUndoRepairsx5
import Derived.Test.YtfajacoagaamlaaPureFnExactUndoRepairs
import Derived.WalkKit
import Derived.ProofKit
import Derived.OpenShut
import Derived.ShutString
import Derived.ChangeOld
import Derived.Below
import Derived.SizedLaws
import Derived.Test.YtfajacoagaamlaaWSized
import Derived.Test.YtfajacoagaamlaaOpen
namespace Go.Proofs.Ytfajacoagaamlaa.fnExactUndoRepairs
open Go.ChangeShapes Go.WideShapes Go.ChangeAt Go.RowKit
open Go.ChangeMaps (open_string shut_string)
set_option linter.unusedVariables false
theorem own : ownKnob Try.prog.godebug = none := by kernel_rfl
theorem laidOut : laidOutB Try.prog = true := by kernel_rfl
def IsRow (k : IntKind) (w : World) (a : Option Addr) (len cap : Nat) (zs : List Int) : Prop :=
  (a = none ∧ len = 0 ∧ cap = 0 ∧ zs = []) ∨
  ∃ x, a = some x ∧ len ≤ cap ∧ cap ≤ maxLen ∧ zs.length = cap ∧ (∀ i, i < zs.length → w.cell? (x.add i) = some (.int k (zs.getD i 0))) ∧ ∀ n ∈ zs, (Lit.int k n).wf = true
set_option maxRecDepth 100000 in
theorem lifted (os : Os) (started : os.Started) (H : Type) (enc : TypeId × Value → H) :
    ReturnsInHanded {} Try.checked os 10 .any (Rows.fnExactUndoRepairsSpec.pre6 enc Try.prog Try.f10 Rows.fnExactUndoRepairsRow.domain false) (Rows.fnExactUndoRepairsSpec.post enc Try.prog Try.f10 false true false false) := by
  refine returnsInHanded_of_change_sized (C := Try.checked) own started (by kernel_rfl) Try.func10
    (ChangeSpec.witness6 (enc := enc) (C := Try.checked) false ⟨#[], #[.slice none 0 0, .slice none 0 0], []⟩ 8 (by kernel_rfl) (by kernel_rfl) (by kernel_rfl) (by kernel_rfl)) ?_
  intro W base args ds gs before hval0 hW hcnd hsz0 _
  have hsz : (DataW.weightsEach Try.prog (Try.f10.params.toList ++ Rows.fnExactUndoRepairsSpec.plain.varTypes Try.prog) (ds ++ gs)).all (· ≤ reachBytes) = true := hsz0
  have hval : ∀ (j : Nat) t v, Try.f10.params[j]? = some t → args[j]? = some v → Value.okWide Try.prog W .any base t v := hval0
  have hW' := hW
  obtain ⟨p, q, hA0, hV, rfl, hfz, hnd⟩ := hW
  have hA : DataW.TrodAll enc Try.prog W 0 (fun _ => true) true Try.f10.params.toList args.toList ds p := hA0
  rw [Try.params10] at hA hval hsz
  obtain ⟨v0, vs0, d0, ds0, p0, q0, hargs, rfl, rfl, h0, r0⟩ := trodAll_cons hA
  obtain ⟨v1, vs1, d1, ds1, p1, q1, rfl, rfl, rfl, h1, r1⟩ := trodAll_cons r0
  obtain ⟨rfl, rfl, rfl⟩ := trodAll_nil r1
  obtain rfl : args = #[v0, v1] := by cases args; simp_all
  obtain ⟨rfl, rfl⟩ := trodVars_none hV
  obtain ⟨a0, len0, cap0, rfl⟩ := okWide_slice Try.underlying22 (hval 0 22 v0 rfl rfl)
  have k0 := h0
  have lt0 : ∀ x ∈ p0, x.block < W.heap.size := by obtain ⟨m, hm⟩ := k0; exact DataW.trod_lt m _ _ _ hm
  obtain ⟨z0, w0⟩ : ∃ zs, IsRow .i64 W a0 len0 cap0 zs := by
    obtain ⟨fuel, hf⟩ := h0
    rcases open_ints Try.underlying22 Try.underlying2 (by kernel_rfl) hf with ⟨hcs, _⟩ | ⟨x, l, c, zs, hcs, _, hl, hm, hz, _, hcell, hwz⟩
    · simp [Value.cells] at hcs
      obtain ⟨rfl, rfl, rfl⟩ := hcs
      exact ⟨[], .inl ⟨rfl, rfl, rfl, rfl⟩⟩
    · simp [Value.cells] at hcs
      obtain ⟨rfl, rfl, rfl⟩ := hcs
      exact ⟨zs, .inr ⟨_, rfl, hl, hm, by simpa using hz, hcell, hwz⟩⟩
  have y0 : len0 * 8 ≤ 140737488351232 := Go.Proofs.YtfajacoagaamlaaW.PrintWords.sized_ints hsz (j := 0) (t := 22) rfl rfl Try.underlying22 Try.underlying2 (by kernel_rfl) (by kernel_rfl) h0
  obtain ⟨a1, len1, cap1, rfl⟩ := okWide_slice Try.underlying38 (hval 1 38 v1 rfl rfl)
  have k1 := h1
  have lt1 : ∀ x ∈ p1, x.block < W.heap.size := by obtain ⟨m, hm⟩ := k1; exact DataW.trod_lt m _ _ _ hm
  obtain ⟨z1, w1, y1⟩ : ∃ zs : List QFnExactUndoRepairs.S70, (Go.Proofs.YtfajacoagaamlaaW.PrintWords.Kd.C QFnExactUndoRepairs.k70 W a1 len1 zs ∧ len1 ≤ cap1 ∧ len1 ≤ maxLen ∧ ∀ x ∈ zs, (Lit.int .i64 x.f0).wf = true ∧ (Lit.int .i64 x.f1).wf = true ∧ (Lit.int .i64 x.f2).wf = true) ∧ len1 * 24 ≤ 140737488351232 := by
    obtain ⟨fuel, hf⟩ := h1
    rcases Go.Deep.open_slice Try.underlying38 hf with ⟨hcs, _⟩ | ⟨x, l, c, m, n, D, Pl, hcs, _, hl, hm, hmm, hx, hi⟩
    · simp [Value.cells] at hcs
      obtain ⟨rfl, rfl, rfl⟩ := hcs
      exact ⟨[], ⟨⟨rfl, by decide, fun h => absurd h (Nat.lt_irrefl 0)⟩, Nat.le_refl _, Nat.zero_le _, by simp⟩, by omega⟩
    · simp [Value.cells] at hcs
      obtain ⟨rfl, rfl, rfl⟩ := hcs
      have hlm : len1 ≤ m := by rw [hmm]; split <;> omega
      have each : ∀ j, j < len1 → ∃ y : QFnExactUndoRepairs.S70, ((Lit.int .i64 y.f0).wf = true ∧ (Lit.int .i64 y.f1).wf = true ∧ (Lit.int .i64 y.f2).wf = true) ∧ ∃ cs : List Value, cs.length = 3 ∧ QFnExactUndoRepairs.k70.K W y cs ∧ ∀ q u, cs[q]? = some u → W.cell? (x.add (j * 3 + q)) = some u := by
        intro j hj
        obtain ⟨cs', hc, ht⟩ := hi j (by omega)
        obtain ⟨_, hcl, hat⟩ := World.cells?_some hc
        have hlen2 : cs'.length = 3 := hcl
        obtain ⟨c0, c1, c2, rfl⟩ : ∃ c0 c1 c2, cs' = [c0, c1, c2] := by match cs', hlen2 with | [c0, c1, c2], _ => exact ⟨_, _, _, rfl⟩
        obtain ⟨ys0, n0, _, _, _, hyl0, hg0⟩ := DataW.trod_struct (cs := [c0, c1, c2]) Try.underlying70 ht
        have hyz0 : ys0.length = 3 := hyl0
        obtain ⟨b0_0, b0_1, b0_2, rfl⟩ : ∃ b0_0 b0_1 b0_2, ys0 = [b0_0, b0_1, b0_2] := by match ys0, hyz0 with | [b0_0, b0_1, b0_2], _ => exact ⟨_, _, _, rfl⟩
        have g0_0 := hg0 0 _ rfl
        obtain ⟨s0_0, e0_0, _, q0_0⟩ := DataW.trod_int (k := .i64) Try.underlying2 (cs := [c0]) (x := b0_0) g0_0
        obtain rfl : c0 = _ := by injection e0_0
        have g0_1 := hg0 1 _ rfl
        obtain ⟨s0_1, e0_1, _, q0_1⟩ := DataW.trod_int (k := .i64) Try.underlying2 (cs := [c1]) (x := b0_1) g0_1
        obtain rfl : c1 = _ := by injection e0_1
        have g0_2 := hg0 2 _ rfl
        obtain ⟨s0_2, e0_2, _, q0_2⟩ := DataW.trod_int (k := .i64) Try.underlying2 (cs := [c2]) (x := b0_2) g0_2
        obtain rfl : c2 = _ := by injection e0_2
        refine ⟨⟨s0_0, s0_1, s0_2⟩, ⟨q0_0, q0_1, q0_2⟩, [.int .i64 s0_0, .int .i64 s0_1, .int .i64 s0_2], rfl, QFnExactUndoRepairs.k70_mk W _, fun q u hq => ?_⟩
        have hql : q < 3 := by have := (List.getElem?_eq_some_iff.1 hq).1; simpa using this
        have := hat q hql
        rw [Go.Deep.add_add] at this
        exact this.trans hq
      obtain ⟨zs, hzl, hz⟩ := Open.rows_of _ len1 each
      refine ⟨zs, ⟨⟨hzl, Nat.le_trans (Nat.le_trans hl hm) (by decide), fun _ => ⟨x, rfl, fun j p hp => ?_⟩⟩, hl, by omega, fun y hy => ?_⟩, ?_⟩
      · obtain ⟨_, cs, h1, h2, h3⟩ := hz j p hp
        exact ⟨cs, h1, h2, h3⟩
      · obtain ⟨j, hj⟩ := List.getElem?_of_mem hy
        exact (hz j y hj).1
      · obtain ⟨hx, _⟩ := Prod.mk.inj hx
        subst hx
        have z := sized_slice hsz (j := 1) (t := 38) rfl rfl Try.underlying38
        have zb : Try.prog.bytesOf 70 = 24 := by kernel_rfl
        rw [zb] at z
        simp only [List.length_map, List.length_range] at z
        have z2 : (len1 + (m - len1)) * 24 ≤ 140737488351232 := z
        omega
  clear hA0 hval0 hsz0 hsz
  refine (QFnExactUndoRepairs.laws_FnExactUndoRepairs.walk Pure.FnExactUndoRepairs a0 len0 cap0 z0 a1 len1 cap1 z1 W w0 y0 w1 y1).mono fun e W' ⟨he, bel⟩ => ?_
  subst he
  exact ⟨_, rfl, _, _, _, [], _, [], hW', trodAll_mk1 (shut_bool Try.underlying4 _), (trodAll_cons_mk (Below.trod laidOut (by kernel_rfl) (of_decide_eq_true (by kernel_rfl)) k0 bel lt0) (trodAll_cons_mk (Below.trod laidOut (by kernel_rfl) (of_decide_eq_true (by kernel_rfl)) k1 bel lt1) trodAll_mk0)), rfl, bel.frame _, fun h => by cases h⟩
theorem over : Rows.fnExactUndoRepairsRow.holds Try.pinned (OpenSpec.ofChange Rows.fnExactUndoRepairsSpec) :=
  OpenClaim.holds_of_wide 10 Try.f10 rfl rfl rfl rfl rfl rfl rfl ⟨rfl, rfl, rfl, rfl, rfl⟩ rfl rfl rfl rfl rfl (by kernel_rfl) Try.func10 (by kernel_rfl)
    (of_decide_eq_true (by kernel_rfl)) (by unfold Func.isWrapper; first | (rw [if_pos (by decide +kernel)]; kernel_rfl) | (rw [if_neg (by decide +kernel)]; exact ⟨rfl, rfl⟩))
    (fun os started H enc _ => lifted os started H enc)
theorem proved : Rows.FnExactUndoRepairsSaid := over
#print axioms proved
end Go.Proofs.Ytfajacoagaamlaa.fnExactUndoRepairs
namespace Go.Proofs.Ytfajacoagaamlaa
/-- The row, under a short name, for the claim. -/
theorem fnExactUndoRepairs_holds : Rows.FnExactUndoRepairsSaid := fnExactUndoRepairs.proved
end Go.Proofs.Ytfajacoagaamlaa
