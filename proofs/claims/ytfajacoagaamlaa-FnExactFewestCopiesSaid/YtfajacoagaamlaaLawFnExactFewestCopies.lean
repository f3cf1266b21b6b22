/- Walks of the Go functions that the law FnExactFewestCopies reaches: written by a program of this session. -/
import Derived.Test.YtfajacoagaamlaaRows
import Derived.Test.YtfajacoagaamlaaQFnExactFewestCopiesx5
import Derived.Test.YtfajacoagaamlaaPureFnExactFewestCopies
import Derived.WalkKit
import Derived.ProofKit
import Derived.OpenShut
import Derived.ShutString
import Derived.ChangeOld
import Derived.Below
import Derived.SizedLaws
import Derived.Test.YtfajacoagaamlaaWSized
import Derived.Test.YtfajacoagaamlaaOpen
namespace Go.Proofs.Ytfajacoagaamlaa.fnExactFewestCopies
open Go.ChangeShapes Go.WideShapes Go.ChangeAt Go.RowKit
open Go.ChangeMaps (open_string shut_string)
set_option linter.unusedVariables false
theorem own : ownKnob Try.prog.godebug = none := by kernel_rfl
theorem laidOut : laidOutB Try.prog = true := by kernel_rfl
def IsRow (k : IntKind) (w : World) (a : Option Addr) (len cap : Nat) (zs : List Int) : Prop :=
  (a = none ∧ len = 0 ∧ cap = 0 ∧ zs = []) ∨
  ∃ x, a = some x ∧ len ≤ cap ∧ cap ≤ maxLen ∧ zs.length = cap ∧ (∀ i, i < zs.length → w.cell? (x.add i) = some (.int k (zs.getD i 0))) ∧ ∀ n ∈ zs, (Lit.int k n).wf = true
set_option maxRecDepth 100000 in
theorem lifted (os : Os) (started : os.Started) (H : Type) (enc : TypeId × Value → H) :
    ReturnsInHanded {} Try.checked os 12 .any (Rows.fnExactFewestCopiesSpec.pre6 enc Try.prog Try.f12 Rows.fnExactFewestCopiesRow.domain false) (Rows.fnExactFewestCopiesSpec.post enc Try.prog Try.f12 false true false false) := by
  refine returnsInHanded_of_change_sized (C := Try.checked) own started (by kernel_rfl) Try.func12
    (ChangeSpec.witness6 (enc := enc) (C := Try.checked) false ⟨#[], #[.slice none 0 0, .slice none 0 0], []⟩ 8 (by kernel_rfl) (by kernel_rfl) (by kernel_rfl) (by kernel_rfl)) ?_
  intro W base args ds gs before hval0 hW hcnd hsz0 _
  have hsz : (DataW.weightsEach Try.prog (Try.f12.params.toList ++ Rows.fnExactFewestCopiesSpec.plain.varTypes Try.prog) (ds ++ gs)).all (· ≤ reachBytes) = true := hsz0
  have hval : ∀ (j : Nat) t v, Try.f12.params[j]? = some t → args[j]? = some v → Value.okWide Try.prog W .any base t v := hval0
  have hW' := hW
  obtain ⟨p, q, hA0, hV, rfl, hfz, hnd⟩ := hW
  have hA : DataW.TrodAll enc Try.prog W 0 (fun _ => true) true Try.f12.params.toList args.toList ds p := hA0
  rw [Try.params12] at hA hval hsz
  obtain ⟨v0, vs0, d0, ds0, p0, q0, hargs, rfl, rfl, h0, r0⟩ := trodAll_cons hA
  obtain ⟨v1, vs1, d1, ds1, p1, q1, rfl, rfl, rfl, h1, r1⟩ := trodAll_cons r0
  obtain ⟨rfl, rfl, rfl⟩ := trodAll_nil r1
  obtain rfl : args = #[v0, v1] := by cases args; simp_all
  obtain ⟨rfl, rfl⟩ := trodVars_none hV
  obtain ⟨a0, len0, cap0, rfl⟩ := okWide_slice Try.underlying22 (hval 0 22 v0 rfl rfl)
  have k0 := h0
  have lt0 : ∀ x ∈ p0, x.block < W.heap.size := by obtain ⟨m, hm⟩ := k0; exact DataW.trod_lt m _ _ _ hm
  obtain ⟨z0, w0⟩ : ∃ zs, IsRow .i64 W a0 len0 cap0 zs := by
    obtain ⟨fuel, hf⟩ := h0
    rcases open_ints Try.underlying22 Try.underlying2 (by kernel_rfl) hf with ⟨hcs, _⟩ | ⟨x, l, c, zs, hcs, _, hl, hm, hz, _, hcell, hwz⟩
    · simp [Value.cells] at hcs
      obtain ⟨rfl, rfl, rfl⟩ := hcs
      exact ⟨[], .inl ⟨rfl, rfl, rfl, rfl⟩⟩
    · simp [Value.cells] at hcs
      obtain ⟨rfl, rfl, rfl⟩ := hcs
      exact ⟨zs, .inr ⟨_, rfl, hl, hm, by simpa using hz, hcell, hwz⟩⟩
  have y0 : len0 * 8 ≤ 140737488351232 := Go.Proofs.YtfajacoagaamlaaW.PrintWords.sized_ints hsz (j := 0) (t := 22) rfl rfl Try.underlying22 Try.underlying2 (by kernel_rfl) (by kernel_rfl) h0
  obtain ⟨a1, len1, cap1, rfl⟩ := okWide_slice Try.underlying46 (hval 1 46 v1 rfl rfl)
  have k1 := h1
  have lt1 : ∀ x ∈ p1, x.block < W.heap.size := by obtain ⟨m, hm⟩ := k1; exact DataW.trod_lt m _ _ _ hm
  obtain ⟨z1, w1, y1⟩ : ∃ zs : List (List Int), (Go.Proofs.YtfajacoagaamlaaW.PrintWords.Kd.C (Go.Proofs.YtfajacoagaamlaaW.PrintWords.Kd.slice 2 (Go.Proofs.YtfajacoagaamlaaW.PrintWords.Kd.int .i64)) W a1 len1 zs ∧ len1 ≤ cap1 ∧ len1 ≤ maxLen ∧ ∀ x ∈ zs, x.length ≤ maxLen ∧ ∀ n_ ∈ x, (Lit.int .i64 n_).wf = true) ∧ len1 * 24 ≤ 140737488351232 := by
    obtain ⟨fuel, hf⟩ := h1
    rcases Go.Deep.open_slice Try.underlying46 hf with ⟨hcs, _⟩ | ⟨x, l, c, m, n, D, Pl, hcs, _, hl, hm, hmm, hx, hi⟩
    · simp [Value.cells] at hcs
      obtain ⟨rfl, rfl, rfl⟩ := hcs
      exact ⟨[], ⟨⟨rfl, by decide, fun h => absurd h (Nat.lt_irrefl 0)⟩, Nat.le_refl _, Nat.zero_le _, by simp⟩, by omega⟩
    · simp [Value.cells] at hcs
      obtain ⟨rfl, rfl, rfl⟩ := hcs
      have hlm : len1 ≤ m := by rw [hmm]; split <;> omega
      have each : ∀ j, j < len1 → ∃ y : List Int, (y.length ≤ maxLen ∧ ∀ n_ ∈ y, (Lit.int .i64 n_).wf = true) ∧ ∃ cs : List Value, cs.length = 1 ∧ ((Go.Proofs.YtfajacoagaamlaaW.PrintWords.Kd.slice 2 (Go.Proofs.YtfajacoagaamlaaW.PrintWords.Kd.int .i64))).K W y cs ∧ ∀ q u, cs[q]? = some u → W.cell? (x.add (j * 1 + q)) = some u := by
        intro j hj
        obtain ⟨cs', hc, ht⟩ := hi j (by omega)
        obtain ⟨_, hcl, hat⟩ := World.cells?_some hc
        have hlen2 : cs'.length = 1 := hcl
        obtain ⟨c0, rfl⟩ : ∃ c0, cs' = [c0] := by match cs', hlen2 with | [c0], _ => exact ⟨_, rfl⟩
        have back : ∀ q u, [c0][q]? = some u → W.cell? (x.add (j * 1 + q)) = some u := by
          intro q u hq
          have hql : q < 1 := by have := (List.getElem?_eq_some_iff.1 hq).1; simpa using this
          have := hat q hql
          rw [Go.Deep.add_add] at this
          exact this.trans hq
        rcases Go.Deep.open_slice1 Try.underlying22 (by kernel_rfl) ht with ⟨hcs2, _⟩ | ⟨x2, len2, cap2, m2, n2, V, D2, Pl2, hcs2, _, hl2, hm2, hmm2, hx2, hi2⟩
        · obtain rfl : c0 = _ := by injection hcs2
          exact ⟨[], ⟨Nat.zero_le _, by simp⟩, _, rfl, ⟨none, 0, rfl, Nat.le_refl _, rfl, by decide, fun h => absurd h (Nat.lt_irrefl 0)⟩, back⟩
        · obtain rfl : c0 = _ := by injection hcs2
          have hlm2 : len2 ≤ m2 := by rw [hmm2]; split <;> omega
          have each2 : ∀ q, q < len2 → ∃ s : Int, W.cell? (x2.add q) = some (.int .i64 s) ∧ (Lit.int .i64 s).wf = true := by
            intro q hq
            obtain ⟨hcell, htr⟩ := hi2 q (by omega)
            obtain ⟨s, es, _, qs⟩ := DataW.trod_int (k := .i64) Try.underlying2 htr
            have es2 : V q = .int .i64 s := by injection es
            rw [es2] at hcell
            exact ⟨s, hcell, qs⟩
          obtain ⟨zs2, hzl2, hz2⟩ := Open.rows_of _ len2 each2
          subst hzl2
          refine ⟨zs2, ⟨Nat.le_trans hl2 hm2, fun n_ hn_ => ?_⟩, _, rfl, ⟨some x2, cap2, rfl, hl2, rfl, Nat.le_trans (Nat.le_trans hl2 hm2) (by decide), fun _ => ⟨x2, rfl, fun q p hp => ⟨[.int .i64 p], rfl, rfl, fun r u hu => ?_⟩⟩⟩, back⟩
          · obtain ⟨q, hq⟩ := List.getElem?_of_mem hn_
            exact (hz2 q n_ hq).2
          · have hr : r = 0 := by have := (List.getElem?_eq_some_iff.1 hu).1; simp at this; omega
            subst hr
            obtain rfl : Value.int .i64 p = u := by simpa using hu
            show W.cell? (x2.add (q * 1 + 0)) = _
            rw [Nat.mul_one, Nat.add_zero]
            exact (hz2 q p hp).1
      obtain ⟨zs, hzl, hz⟩ := Open.rows_of _ len1 each
      refine ⟨zs, ⟨⟨hzl, Nat.le_trans (Nat.le_trans hl hm) (by decide), fun _ => ⟨x, rfl, fun j p hp => ?_⟩⟩, hl, by omega, fun y hy => ?_⟩, ?_⟩
      · obtain ⟨_, cs, h1, h2, h3⟩ := hz j p hp
        exact ⟨cs, h1, h2, h3⟩
      · obtain ⟨j, hj⟩ := List.getElem?_of_mem hy
        exact (hz j y hj).1
      · obtain ⟨hx, _⟩ := Prod.mk.inj hx
        subst hx
        have z := sized_slice hsz (j := 1) (t := 46) rfl rfl Try.underlying46
        have zb : Try.prog.bytesOf 22 = 24 := by kernel_rfl
        rw [zb] at z
        simp only [List.length_map, List.length_range] at z
        have z2 : (len1 + (m - len1)) * 24 ≤ 140737488351232 := z
        omega
  clear hA0 hval0 hsz0 hsz
  refine (QFnExactFewestCopies.laws_FnExactFewestCopies.walk Pure.FnExactFewestCopies a0 len0 cap0 z0 a1 len1 cap1 z1 W w0 y0 w1 y1).mono fun e W' ⟨he, bel⟩ => ?_
  subst he
  exact ⟨_, rfl, _, _, _, [], _, [], hW', trodAll_mk1 (shut_bool Try.underlying4 _), (trodAll_cons_mk (Below.trod laidOut (by kernel_rfl) (of_decide_eq_true (by kernel_rfl)) k0 bel lt0) (trodAll_cons_mk (Below.trod laidOut (by kernel_rfl) (of_decide_eq_true (by kernel_rfl)) k1 bel lt1) trodAll_mk0)), rfl, bel.frame _, fun h => by cases h⟩
theorem over : Rows.fnExactFewestCopiesRow.holds Try.pinned (OpenSpec.ofChange Rows.fnExactFewestCopiesSpec) :=
  OpenClaim.holds_of_wide 12 Try.f12 rfl rfl rfl rfl rfl rfl rfl ⟨rfl, rfl, rfl, rfl, rfl⟩ rfl rfl rfl rfl rfl (by kernel_rfl) Try.func12 (by kernel_rfl)
    (of_decide_eq_true (by kernel_rfl)) (by unfold Func.isWrapper; first | (rw [if_pos (by decide +kernel)]; kernel_rfl) | (rw [if_neg (by decide +kernel)]; exact ⟨rfl, rfl⟩))
    (fun os started H enc _ => lifted os started H enc)
theorem proved : Rows.FnExactFewestCopiesSaid := over
#print axioms proved
end Go.Proofs.Ytfajacoagaamlaa.fnExactFewestCopies
namespace Go.Proofs.Ytfajacoagaamlaa
/-- The row, under a short name, for the claim. -/
theorem fnExactFewestCopies_holds : Rows.FnExactFewestCopiesSaid := fnExactFewestCopies.proved
end Go.Proofs.Ytfajacoagaamlaa
