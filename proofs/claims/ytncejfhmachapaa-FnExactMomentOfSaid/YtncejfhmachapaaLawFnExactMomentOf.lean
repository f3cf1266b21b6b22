/- Walks of the Go functions that the law FnExactMomentOf reaches: written by a program of this session. -/
import Derived.Test.YtncejfhmachapaaRows
import Derived.Test.YtncejfhmachapaaQFnExactMomentOfx4
import Derived.Test.YtncejfhmachapaaPureFnExactMomentOf
import Derived.WalkKit
import Derived.ProofKit
import Derived.OpenShut
import Derived.ShutString
import Derived.ChangeOld
import Derived.Below
import Derived.SizedLaws
import Derived.Test.YtncejfhmachapaaWSized
import Derived.Test.YtncejfhmachapaaOpen
namespace Go.Proofs.Ytncejfhmachapaa.fnExactMomentOf
open Go.ChangeShapes Go.WideShapes Go.ChangeAt Go.RowKit
open Go.ChangeMaps (open_string shut_string)
set_option linter.unusedVariables false
theorem own : ownKnob Try.prog.godebug = none := by kernel_rfl
theorem laidOut : laidOutB Try.prog = true := by kernel_rfl
def IsRow (k : IntKind) (w : World) (a : Option Addr) (len cap : Nat) (zs : List Int) : Prop :=
  (a = none ∧ len = 0 ∧ cap = 0 ∧ zs = []) ∨
  ∃ x, a = some x ∧ len ≤ cap ∧ cap ≤ maxLen ∧ zs.length = cap ∧ (∀ i, i < zs.length → w.cell? (x.add i) = some (.int k (zs.getD i 0))) ∧ ∀ n ∈ zs, (Lit.int k n).wf = true
set_option maxRecDepth 100000 in
theorem lifted (os : Os) (started : os.Started) (H : Type) (enc : TypeId × Value → H) :
    ReturnsInHanded {} Try.checked os 11 .any (Rows.fnExactMomentOfSpec.pre6 enc Try.prog Try.f11 Rows.fnExactMomentOfRow.domain false) (Rows.fnExactMomentOfSpec.post enc Try.prog Try.f11 false true false false) := by
  refine returnsInHanded_of_change_sized (C := Try.checked) own started (by kernel_rfl) Try.func11
    (ChangeSpec.witness6 (enc := enc) (C := Try.checked) false ⟨#[], #[.slice none 0 0], []⟩ 8 (by kernel_rfl) (by kernel_rfl) (by kernel_rfl) (by kernel_rfl)) ?_
  intro W base args ds gs before hval0 hW hcnd hsz0 _
  have hsz : (DataW.weightsEach Try.prog (Try.f11.params.toList ++ Rows.fnExactMomentOfSpec.plain.varTypes Try.prog) (ds ++ gs)).all (· ≤ reachBytes) = true := hsz0
  have hval : ∀ (j : Nat) t v, Try.f11.params[j]? = some t → args[j]? = some v → Value.okWide Try.prog W .any base t v := hval0
  have hW' := hW
  obtain ⟨p, q, hA0, hV, rfl, hfz, hnd⟩ := hW
  have hA : DataW.TrodAll enc Try.prog W 0 (fun _ => true) true Try.f11.params.toList args.toList ds p := hA0
  rw [Try.params11] at hA hval hsz
  obtain ⟨v0, vs0, d0, ds0, p0, q0, hargs, rfl, rfl, h0, r0⟩ := trodAll_cons hA
  obtain ⟨rfl, rfl, rfl⟩ := trodAll_nil r0
  obtain rfl : args = #[v0] := by cases args; simp_all
  obtain ⟨rfl, rfl⟩ := trodVars_none hV
  obtain ⟨a0, len0, cap0, rfl⟩ := okWide_slice Try.underlying37 (hval 0 37 v0 rfl rfl)
  have k0 := h0
  have lt0 : ∀ x ∈ p0, x.block < W.heap.size := by obtain ⟨m, hm⟩ := k0; exact DataW.trod_lt m _ _ _ hm
  obtain ⟨z0, w0, y0⟩ : ∃ zs : List QFnExactMomentOf.S74, (Go.Proofs.YtncejfhmachapaaW.PrintWords.Kd.C QFnExactMomentOf.k74 W a0 len0 zs ∧ len0 ≤ cap0 ∧ len0 ≤ maxLen ∧ ∀ x ∈ zs, (Lit.int .i64 x.f0).wf = true ∧ (Lit.int .i64 x.f1.f0).wf = true ∧ (Lit.int .i64 x.f1.f1).wf = true) ∧ len0 * 24 ≤ 140737488351232 := by
    obtain ⟨fuel, hf⟩ := h0
    rcases Go.Deep.open_slice Try.underlying37 hf with ⟨hcs, _⟩ | ⟨x, l, c, m, n, D, Pl, hcs, _, hl, hm, hmm, hx, hi⟩
    · simp [Value.cells] at hcs
      obtain ⟨rfl, rfl, rfl⟩ := hcs
      exact ⟨[], ⟨⟨rfl, by decide, fun h => absurd h (Nat.lt_irrefl 0)⟩, Nat.le_refl _, Nat.zero_le _, by simp⟩, by omega⟩
    · simp [Value.cells] at hcs
      obtain ⟨rfl, rfl, rfl⟩ := hcs
      have hlm : len0 ≤ m := by rw [hmm]; split <;> omega
      have each : ∀ j, j < len0 → ∃ y : QFnExactMomentOf.S74, ((Lit.int .i64 y.f0).wf = true ∧ (Lit.int .i64 y.f1.f0).wf = true ∧ (Lit.int .i64 y.f1.f1).wf = true) ∧ ∃ cs : List Value, cs.length = 3 ∧ QFnExactMomentOf.k74.K W y cs ∧ ∀ q u, cs[q]? = some u → W.cell? (x.add (j * 3 + q)) = some u := by
        intro j hj
        obtain ⟨cs', hc, ht⟩ := hi j (by omega)
        obtain ⟨_, hcl, hat⟩ := World.cells?_some hc
        have hlen2 : cs'.length = 3 := hcl
        obtain ⟨c0, c1, c2, rfl⟩ : ∃ c0 c1 c2, cs' = [c0, c1, c2] := by match cs', hlen2 with | [c0, c1, c2], _ => exact ⟨_, _, _, rfl⟩
        obtain ⟨ys0, n0, _, _, _, hyl0, hg0⟩ := DataW.trod_struct (cs := [c0, c1, c2]) Try.underlying74 ht
        have hyz0 : ys0.length = 2 := hyl0
        obtain ⟨b0_0, b0_1, rfl⟩ : ∃ b0_0 b0_1, ys0 = [b0_0, b0_1] := by match ys0, hyz0 with | [b0_0, b0_1], _ => exact ⟨_, _, rfl⟩
        have g0_0 := hg0 0 _ rfl
        obtain ⟨s0_0, e0_0, _, q0_0⟩ := DataW.trod_int (k := .i64) Try.underlying2 (cs := [c0]) (x := b0_0) g0_0
        obtain rfl : c0 = _ := by injection e0_0
        have g0_1 := hg0 1 _ rfl
        obtain ⟨ys1, n1, _, _, _, hyl1, hg1⟩ := DataW.trod_struct (cs := [c1, c2]) Try.underlying72 (x := b0_1) g0_1
        have hyz1 : ys1.length = 2 := hyl1
        obtain ⟨b1_0, b1_1, rfl⟩ : ∃ b1_0 b1_1, ys1 = [b1_0, b1_1] := by match ys1, hyz1 with | [b1_0, b1_1], _ => exact ⟨_, _, rfl⟩
        have g1_0 := hg1 0 _ rfl
        obtain ⟨s1_0, e1_0, _, q1_0⟩ := DataW.trod_int (k := .i64) Try.underlying2 (cs := [c1]) (x := b1_0) g1_0
        obtain rfl : c1 = _ := by injection e1_0
        have g1_1 := hg1 1 _ rfl
        obtain ⟨s1_1, e1_1, _, q1_1⟩ := DataW.trod_int (k := .i64) Try.underlying2 (cs := [c2]) (x := b1_1) g1_1
        obtain rfl : c2 = _ := by injection e1_1
        refine ⟨⟨s0_0, ⟨s1_0, s1_1⟩⟩, ⟨q0_0, q1_0, q1_1⟩, [.int .i64 s0_0, .int .i64 s1_0, .int .i64 s1_1], rfl, QFnExactMomentOf.k74_mk W _, fun q u hq => ?_⟩
        have hql : q < 3 := by have := (List.getElem?_eq_some_iff.1 hq).1; simpa using this
        have := hat q hql
        rw [Go.Deep.add_add] at this
        exact this.trans hq
      obtain ⟨zs, hzl, hz⟩ := Open.rows_of _ len0 each
      refine ⟨zs, ⟨⟨hzl, Nat.le_trans (Nat.le_trans hl hm) (by decide), fun _ => ⟨x, rfl, fun j p hp => ?_⟩⟩, hl, by omega, fun y hy => ?_⟩, ?_⟩
      · obtain ⟨_, cs, h1, h2, h3⟩ := hz j p hp
        exact ⟨cs, h1, h2, h3⟩
      · obtain ⟨j, hj⟩ := List.getElem?_of_mem hy
        exact (hz j y hj).1
      · obtain ⟨hx, _⟩ := Prod.mk.inj hx
        subst hx
        have z := sized_slice hsz (j := 0) (t := 37) rfl rfl Try.underlying37
        have zb : Try.prog.bytesOf 74 = 24 := by kernel_rfl
        rw [zb] at z
        simp only [List.length_map, List.length_range] at z
        have z2 : (len0 + (m - len0)) * 24 ≤ 140737488351232 := z
        omega
  clear hA0 hval0 hsz0 hsz
  refine (QFnExactMomentOf.laws_FnExactMomentOf.walk Pure.FnExactMomentOf a0 len0 cap0 z0 W w0 y0).mono fun e W' ⟨he, bel⟩ => ?_
  subst he
  exact ⟨_, rfl, _, _, _, [], _, [], hW', trodAll_mk1 (shut_bool Try.underlying4 _), (trodAll_cons_mk (Below.trod laidOut (by kernel_rfl) (of_decide_eq_true (by kernel_rfl)) k0 bel lt0) trodAll_mk0), rfl, bel.frame _, fun h => by cases h⟩
theorem over : Rows.fnExactMomentOfRow.holds Try.pinned (OpenSpec.ofChange Rows.fnExactMomentOfSpec) :=
  OpenClaim.holds_of_wide 11 Try.f11 rfl rfl rfl rfl rfl rfl rfl ⟨rfl, rfl, rfl, rfl, rfl⟩ rfl rfl rfl rfl rfl (by kernel_rfl) Try.func11 (by kernel_rfl)
    (of_decide_eq_true (by kernel_rfl)) (by unfold Func.isWrapper; first | (rw [if_pos (by decide +kernel)]; kernel_rfl) | (rw [if_neg (by decide +kernel)]; exact ⟨rfl, rfl⟩))
    (fun os started H enc _ => lifted os started H enc)
theorem proved : Rows.FnExactMomentOfSaid := over
#print axioms proved
end Go.Proofs.Ytncejfhmachapaa.fnExactMomentOf
namespace Go.Proofs.Ytncejfhmachapaa
/-- The row, under a short name, for the claim. -/
theorem fnExactMomentOf_holds : Rows.FnExactMomentOfSaid := fnExactMomentOf.proved
end Go.Proofs.Ytncejfhmachapaa
