/- Walks of the Go functions that the law FnTopOfAll reaches: written by a program of this session. -/
import Derived.Test.YtmgljagkmaoopaaGreatRows
import Derived.Test.YtmgljagkmaoopaaGreatQFnTopOfAllx20
import Derived.Test.YtmgljagkmaoopaaGreatPureFnTopOfAll
import Derived.WalkKit
import Derived.ProofKit
import Derived.OpenShut
import Derived.ShutString
import Derived.ChangeOld
import Derived.Below
import Derived.SizedLaws
import Derived.Test.YtmgljagkmaoopaaGreatWSized
import Derived.Test.YtmgljagkmaoopaaGreatOpen
namespace Go.Proofs.YtmgljagkmaoopaaGreat.fnTopOfAll
open Go.ChangeShapes Go.WideShapes Go.ChangeAt Go.RowKit
open Go.ChangeMaps (open_string shut_string)
set_option linter.unusedVariables false
theorem own : ownKnob Tryz.prog.godebug = none := by kernel_rfl
theorem laidOut : laidOutB Tryz.prog = true := by kernel_rfl
def IsRow (k : IntKind) (w : World) (a : Option Addr) (len cap : Nat) (zs : List Int) : Prop :=
  (a = none ∧ len = 0 ∧ cap = 0 ∧ zs = []) ∨
  ∃ x, a = some x ∧ len ≤ cap ∧ cap ≤ maxLen ∧ zs.length = cap ∧ (∀ i, i < zs.length → w.cell? (x.add i) = some (.int k (zs.getD i 0))) ∧ ∀ n ∈ zs, (Lit.int k n).wf = true
set_option maxRecDepth 100000 in
theorem lifted (os : Os) (started : os.Started) (H : Type) (enc : TypeId × Value → H) :
    ReturnsInHanded {} Tryz.checked os 4 .any (Rows.fnTopOfAllSpec.pre6 enc Tryz.prog Tryz.f4 Rows.fnTopOfAllRow.domain false) (Rows.fnTopOfAllSpec.post enc Tryz.prog Tryz.f4 false true false false) := by
  refine returnsInHanded_of_change_sized (C := Tryz.checked) own started (by kernel_rfl) Tryz.func4
    (ChangeSpec.witness6 (enc := enc) (C := Tryz.checked) false ⟨#[], #[.slice none 0 0, .int .i64 0, .int .i64 0, .slice none 0 0, .int .i64 0, .int .i64 0, .int .i64 0], []⟩ 8 (by kernel_rfl) (by kernel_rfl) (by kernel_rfl) (by kernel_rfl)) ?_
  intro W base args ds gs before hval0 hW hcnd hsz0 _
  have hsz : (DataW.weightsEach Tryz.prog (Tryz.f4.params.toList ++ Rows.fnTopOfAllSpec.plain.varTypes Tryz.prog) (ds ++ gs)).all (· ≤ reachBytes) = true := hsz0
  have hval : ∀ (j : Nat) t v, Tryz.f4.params[j]? = some t → args[j]? = some v → Value.okWide Tryz.prog W .any base t v := hval0
  have hW' := hW
  obtain ⟨p, q, hA0, hV, rfl, hfz, hnd⟩ := hW
  have hA : DataW.TrodAll enc Tryz.prog W 0 (fun _ => true) true Tryz.f4.params.toList args.toList ds p := hA0
  rw [Tryz.params4] at hA hval hsz
  obtain ⟨v0, vs0, d0, ds0, p0, q0, hargs, rfl, rfl, h0, r0⟩ := trodAll_cons hA
  obtain ⟨v1, vs1, d1, ds1, p1, q1, rfl, rfl, rfl, h1, r1⟩ := trodAll_cons r0
  obtain ⟨v2, vs2, d2, ds2, p2, q2, rfl, rfl, rfl, h2, r2⟩ := trodAll_cons r1
  obtain ⟨v3, vs3, d3, ds3, p3, q3, rfl, rfl, rfl, h3, r3⟩ := trodAll_cons r2
  obtain ⟨v4, vs4, d4, ds4, p4, q4, rfl, rfl, rfl, h4, r4⟩ := trodAll_cons r3
  obtain ⟨v5, vs5, d5, ds5, p5, q5, rfl, rfl, rfl, h5, r5⟩ := trodAll_cons r4
  obtain ⟨v6, vs6, d6, ds6, p6, q6, rfl, rfl, rfl, h6, r6⟩ := trodAll_cons r5
  obtain ⟨rfl, rfl, rfl⟩ := trodAll_nil r6
  obtain rfl : args = #[v0, v1, v2, v3, v4, v5, v6] := by cases args; simp_all
  obtain ⟨rfl, rfl⟩ := trodVars_none hV
  obtain ⟨a0, len0, cap0, rfl⟩ := okWide_slice Tryz.underlying24 (hval 0 24 v0 rfl rfl)
  have k0 := h0
  have lt0 : ∀ x ∈ p0, x.block < W.heap.size := by obtain ⟨m, hm⟩ := k0; exact DataW.trod_lt m _ _ _ hm
  obtain ⟨z0, w0, y0⟩ : ∃ zs : List QFnTopOfAll.S71, (Go.Proofs.YtmgljagkmaoopaaGreatW.PrintWords.Kd.C QFnTopOfAll.k71 W a0 len0 zs ∧ len0 ≤ cap0 ∧ len0 ≤ maxLen ∧ ∀ x ∈ zs, (Lit.int .i64 x.f0).wf = true ∧ (Lit.int .i64 x.f1).wf = true) ∧ len0 * 16 ≤ 140737488351232 := by
    obtain ⟨fuel, hf⟩ := h0
    rcases Go.Deep.open_slice Tryz.underlying24 hf with ⟨hcs, _⟩ | ⟨x, l, c, m, n, D, Pl, hcs, _, hl, hm, hmm, hx, hi⟩
    · simp [Value.cells] at hcs
      obtain ⟨rfl, rfl, rfl⟩ := hcs
      exact ⟨[], ⟨⟨rfl, by decide, fun h => absurd h (Nat.lt_irrefl 0)⟩, Nat.le_refl _, Nat.zero_le _, by simp⟩, by omega⟩
    · simp [Value.cells] at hcs
      obtain ⟨rfl, rfl, rfl⟩ := hcs
      have hlm : len0 ≤ m := by rw [hmm]; split <;> omega
      have each : ∀ j, j < len0 → ∃ y : QFnTopOfAll.S71, ((Lit.int .i64 y.f0).wf = true ∧ (Lit.int .i64 y.f1).wf = true) ∧ ∃ cs : List Value, cs.length = 2 ∧ QFnTopOfAll.k71.K W y cs ∧ ∀ q u, cs[q]? = some u → W.cell? (x.add (j * 2 + q)) = some u := by
        intro j hj
        obtain ⟨cs', hc, ht⟩ := hi j (by omega)
        obtain ⟨_, hcl, hat⟩ := World.cells?_some hc
        have hlen2 : cs'.length = 2 := hcl
        obtain ⟨c0, c1, rfl⟩ : ∃ c0 c1, cs' = [c0, c1] := by match cs', hlen2 with | [c0, c1], _ => exact ⟨_, _, rfl⟩
        obtain ⟨ys0, n0, _, _, _, hyl0, hg0⟩ := DataW.trod_struct (cs := [c0, c1]) Tryz.underlying71 ht
        have hyz0 : ys0.length = 2 := hyl0
        obtain ⟨b0_0, b0_1, rfl⟩ : ∃ b0_0 b0_1, ys0 = [b0_0, b0_1] := by match ys0, hyz0 with | [b0_0, b0_1], _ => exact ⟨_, _, rfl⟩
        have g0_0 := hg0 0 _ rfl
        obtain ⟨s0_0, e0_0, _, q0_0⟩ := DataW.trod_int (k := .i64) Tryz.underlying2 (cs := [c0]) (x := b0_0) g0_0
        obtain rfl : c0 = _ := by injection e0_0
        have g0_1 := hg0 1 _ rfl
        obtain ⟨s0_1, e0_1, _, q0_1⟩ := DataW.trod_int (k := .i64) Tryz.underlying2 (cs := [c1]) (x := b0_1) g0_1
        obtain rfl : c1 = _ := by injection e0_1
        refine ⟨⟨s0_0, s0_1⟩, ⟨q0_0, q0_1⟩, [.int .i64 s0_0, .int .i64 s0_1], rfl, QFnTopOfAll.k71_mk W _, fun q u hq => ?_⟩
        have hql : q < 2 := by have := (List.getElem?_eq_some_iff.1 hq).1; simpa using this
        have := hat q hql
        rw [Go.Deep.add_add] at this
        exact this.trans hq
      obtain ⟨zs, hzl, hz⟩ := Open.rows_of _ len0 each
      refine ⟨zs, ⟨⟨hzl, Nat.le_trans (Nat.le_trans hl hm) (by decide), fun _ => ⟨x, rfl, fun j p hp => ?_⟩⟩, hl, by omega, fun y hy => ?_⟩, ?_⟩
      · obtain ⟨_, cs, h1, h2, h3⟩ := hz j p hp
        exact ⟨cs, h1, h2, h3⟩
      · obtain ⟨j, hj⟩ := List.getElem?_of_mem hy
        exact (hz j y hj).1
      · obtain ⟨hx, _⟩ := Prod.mk.inj hx
        subst hx
        have z := sized_slice hsz (j := 0) (t := 24) rfl rfl Tryz.underlying24
        have zb : Tryz.prog.bytesOf 71 = 16 := by kernel_rfl
        rw [zb] at z
        simp only [List.length_map, List.length_range] at z
        have z2 : (len0 + (m - len0)) * 16 ≤ 140737488351232 := z
        omega
  obtain ⟨a1, rfl, rfl, rfl, w1⟩ := open_int Tryz.underlying2 (hval 1 2 v1 rfl rfl) h1
  obtain ⟨a2, rfl, rfl, rfl, w2⟩ := open_int Tryz.underlying2 (hval 2 2 v2 rfl rfl) h2
  obtain ⟨a3, len3, cap3, rfl⟩ := okWide_slice Tryz.underlying31 (hval 3 31 v3 rfl rfl)
  have k3 := h3
  have lt3 : ∀ x ∈ p3, x.block < W.heap.size := by obtain ⟨m, hm⟩ := k3; exact DataW.trod_lt m _ _ _ hm
  obtain ⟨z3, w3, y3⟩ : ∃ zs : List QFnTopOfAll.S82, (Go.Proofs.YtmgljagkmaoopaaGreatW.PrintWords.Kd.C QFnTopOfAll.k82 W a3 len3 zs ∧ len3 ≤ cap3 ∧ len3 ≤ maxLen ∧ ∀ x ∈ zs, (Lit.int .i64 x.f0).wf = true ∧ (Lit.int .i64 x.f1).wf = true) ∧ len3 * 16 ≤ 140737488351232 := by
    obtain ⟨fuel, hf⟩ := h3
    rcases Go.Deep.open_slice Tryz.underlying31 hf with ⟨hcs, _⟩ | ⟨x, l, c, m, n, D, Pl, hcs, _, hl, hm, hmm, hx, hi⟩
    · simp [Value.cells] at hcs
      obtain ⟨rfl, rfl, rfl⟩ := hcs
      exact ⟨[], ⟨⟨rfl, by decide, fun h => absurd h (Nat.lt_irrefl 0)⟩, Nat.le_refl _, Nat.zero_le _, by simp⟩, by omega⟩
    · simp [Value.cells] at hcs
      obtain ⟨rfl, rfl, rfl⟩ := hcs
      have hlm : len3 ≤ m := by rw [hmm]; split <;> omega
      have each : ∀ j, j < len3 → ∃ y : QFnTopOfAll.S82, ((Lit.int .i64 y.f0).wf = true ∧ (Lit.int .i64 y.f1).wf = true) ∧ ∃ cs : List Value, cs.length = 2 ∧ QFnTopOfAll.k82.K W y cs ∧ ∀ q u, cs[q]? = some u → W.cell? (x.add (j * 2 + q)) = some u := by
        intro j hj
        obtain ⟨cs', hc, ht⟩ := hi j (by omega)
        obtain ⟨_, hcl, hat⟩ := World.cells?_some hc
        have hlen2 : cs'.length = 2 := hcl
        obtain ⟨c0, c1, rfl⟩ : ∃ c0 c1, cs' = [c0, c1] := by match cs', hlen2 with | [c0, c1], _ => exact ⟨_, _, rfl⟩
        obtain ⟨ys0, n0, _, _, _, hyl0, hg0⟩ := DataW.trod_struct (cs := [c0, c1]) Tryz.underlying82 ht
        have hyz0 : ys0.length = 2 := hyl0
        obtain ⟨b0_0, b0_1, rfl⟩ : ∃ b0_0 b0_1, ys0 = [b0_0, b0_1] := by match ys0, hyz0 with | [b0_0, b0_1], _ => exact ⟨_, _, rfl⟩
        have g0_0 := hg0 0 _ rfl
        obtain ⟨s0_0, e0_0, _, q0_0⟩ := DataW.trod_int (k := .i64) Tryz.underlying2 (cs := [c0]) (x := b0_0) g0_0
        obtain rfl : c0 = _ := by injection e0_0
        have g0_1 := hg0 1 _ rfl
        obtain ⟨s0_1, e0_1, _, q0_1⟩ := DataW.trod_int (k := .i64) Tryz.underlying2 (cs := [c1]) (x := b0_1) g0_1
        obtain rfl : c1 = _ := by injection e0_1
        refine ⟨⟨s0_0, s0_1⟩, ⟨q0_0, q0_1⟩, [.int .i64 s0_0, .int .i64 s0_1], rfl, QFnTopOfAll.k82_mk W _, fun q u hq => ?_⟩
        have hql : q < 2 := by have := (List.getElem?_eq_some_iff.1 hq).1; simpa using this
        have := hat q hql
        rw [Go.Deep.add_add] at this
        exact this.trans hq
      obtain ⟨zs, hzl, hz⟩ := Open.rows_of _ len3 each
      refine ⟨zs, ⟨⟨hzl, Nat.le_trans (Nat.le_trans hl hm) (by decide), fun _ => ⟨x, rfl, fun j p hp => ?_⟩⟩, hl, by omega, fun y hy => ?_⟩, ?_⟩
      · obtain ⟨_, cs, h1, h2, h3⟩ := hz j p hp
        exact ⟨cs, h1, h2, h3⟩
      · obtain ⟨j, hj⟩ := List.getElem?_of_mem hy
        exact (hz j y hj).1
      · obtain ⟨hx, _⟩ := Prod.mk.inj hx
        subst hx
        have z := sized_slice hsz (j := 3) (t := 31) rfl rfl Tryz.underlying31
        have zb : Tryz.prog.bytesOf 82 = 16 := by kernel_rfl
        rw [zb] at z
        simp only [List.length_map, List.length_range] at z
        have z2 : (len3 + (m - len3)) * 16 ≤ 140737488351232 := z
        omega
  obtain ⟨a4, rfl, rfl, rfl, w4⟩ := open_int Tryz.underlying2 (hval 4 2 v4 rfl rfl) h4
  obtain ⟨a5, rfl, rfl, rfl, w5⟩ := open_int Tryz.underlying2 (hval 5 2 v5 rfl rfl) h5
  obtain ⟨a6, rfl, rfl, rfl, w6⟩ := open_int Tryz.underlying2 (hval 6 2 v6 rfl rfl) h6
  clear hA0 hval0 hsz0 hsz
  refine (QFnTopOfAll.laws_FnTopOfAll.walk Pure.FnTopOfAll a0 len0 cap0 z0 a1 a2 a3 len3 cap3 z3 a4 a5 a6 W w0 y0 w1 w2 w3 y3 w4 w5 w6).mono fun e W' ⟨he, bel⟩ => ?_
  subst he
  exact ⟨_, rfl, _, _, _, [], _, [], hW', trodAll_mk1 (shut_bool Tryz.underlying4 _), (trodAll_cons_mk (Below.trod laidOut (by kernel_rfl) (of_decide_eq_true (by kernel_rfl)) k0 bel lt0) (trodAll_cons_mk (shut_int Tryz.underlying2 w1) (trodAll_cons_mk (shut_int Tryz.underlying2 w2) (trodAll_cons_mk (Below.trod laidOut (by kernel_rfl) (of_decide_eq_true (by kernel_rfl)) k3 bel lt3) (trodAll_cons_mk (shut_int Tryz.underlying2 w4) (trodAll_cons_mk (shut_int Tryz.underlying2 w5) (trodAll_cons_mk (shut_int Tryz.underlying2 w6) trodAll_mk0))))))), rfl, bel.frame _, fun h => by cases h⟩
theorem over : Rows.fnTopOfAllRow.holds Tryz.pinned (OpenSpec.ofChange Rows.fnTopOfAllSpec) :=
  OpenClaim.holds_of_wide 4 Tryz.f4 rfl rfl rfl rfl rfl rfl rfl ⟨rfl, rfl, rfl, rfl, rfl⟩ rfl rfl rfl rfl rfl (by kernel_rfl) Tryz.func4 (by kernel_rfl)
    (of_decide_eq_true (by kernel_rfl)) (by unfold Func.isWrapper; first | (rw [if_pos (by decide +kernel)]; kernel_rfl) | (rw [if_neg (by decide +kernel)]; exact ⟨rfl, rfl⟩))
    (fun os started H enc _ => lifted os started H enc)
theorem proved : Rows.FnTopOfAllSaid := over
#print axioms proved
end Go.Proofs.YtmgljagkmaoopaaGreat.fnTopOfAll
namespace Go.Proofs.YtmgljagkmaoopaaGreat
/-- The row, under a short name, for the claim. -/
theorem fnTopOfAll_holds : Rows.FnTopOfAllSaid := fnTopOfAll.proved
end Go.Proofs.YtmgljagkmaoopaaGreat
