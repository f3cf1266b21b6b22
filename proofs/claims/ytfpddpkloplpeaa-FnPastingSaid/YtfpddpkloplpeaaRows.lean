/-
  No cell of these rows narrows 'for every input' (looked for: loops, veiled, ifaces, maps, wideKeys, modest, calm, conditions, laid).
  DERIVED. THE GIVEN ROWS OF THIS SEAT. 8 by the template 'for every input the law returns true; each argument reads behind the call as it read before'; 0 by the template 'total and deterministic' (their statements: YtfpddpkloplpeaaTotals.lean).
  GIVEN WITH THE SEED: the statements are not yours to turn. If you find one false, say at which input.
  Laid BY PROGRAM, IN A SANDBOX (cutbox-rows.mjs): the forced cells as the released guide's own fill.sh prints them over the translation 256062345487d2c7… (all of the seat's roots in one cut). By AI agents, Wed Nov 11 2026. No macro, syntax, notation, axiom, sorry.
-/
import Derived.Test.YtfpddpkloplpeaaChecked
import GoSem.Claim
import GoSem.ClaimJoined
import GoSem.ClaimMapViews
import Derived.JoinedTies
import Derived.KernelRfl
namespace Go.Proofs.Ytfpddpkloplpeaa
/- THE CELL 'sum', in the pinned program and in every row, IS THE sha256 OF THE DUMP (.gsa) THAT YtfpddpkloplpeaaProg.lean LOADS. Nothing in Lean hashes anything: it is a label: what it is worth is what the hold of that sum in a sandbox is worth. -/
noncomputable def Try.pinned : Pinned := { name := "ytfpddpkloplpeaa", sum := "256062345487d2c7832cd64b4b8802bc02af5a8c5e1e93c5ec649289c3642ea3", checked := Try.checked }
namespace Rows
def none {H : Type} : Left H := { results := [], args := [] }

/-- 'laws.FnExactHandsFor': WHATEVER THE INPUT: true; the input reads as it did. -/
def fnExactHandsForSpec : ChangeSpec := { name := "fnExactHandsFor", fn := fun _ => fun
  | [d1, d2, d3] => { results := [.lit (.bool true)], args := [d1, d2, d3] }
  | _ => none }
def fnExactHandsForRow : OpenClaim := { program := "ytfpddpkloplpeaa", sum := "256062345487d2c7832cd64b4b8802bc02af5a8c5e1e93c5ec649289c3642ea3", func := "loop.example/g01055/laws.FnExactHandsFor", spec := "fnExactHandsFor", apart := false }
def FnExactHandsForSaid : Prop := fnExactHandsForRow.holds Try.pinned (OpenSpec.ofChange fnExactHandsForSpec)

/-- ITS FALSE NEIGHBOUR: 'it returns false'. Refute it at one input. -/
def fnExactHandsForWrong : ChangeSpec := { name := "fnExactHandsFor", fn := fun _ => fun
  | [d1, d2, d3] => { results := [.lit (.bool false)], args := [d1, d2, d3] }
  | _ => none }
def FnExactHandsForWrongFalsely : Prop := fnExactHandsForRow.holds Try.pinned (OpenSpec.ofChange fnExactHandsForWrong)

/-- 'laws.FnExactShareGores': WHATEVER THE INPUT: true; the input reads as it did. -/
def fnExactShareGoresSpec : ChangeSpec := { name := "fnExactShareGores", fn := fun _ => fun
  | [d1, d2] => { results := [.lit (.bool true)], args := [d1, d2] }
  | _ => none }
def fnExactShareGoresRow : OpenClaim := { program := "ytfpddpkloplpeaa", sum := "256062345487d2c7832cd64b4b8802bc02af5a8c5e1e93c5ec649289c3642ea3", func := "loop.example/g01055/laws.FnExactShareGores", spec := "fnExactShareGores", apart := false }
def FnExactShareGoresSaid : Prop := fnExactShareGoresRow.holds Try.pinned (OpenSpec.ofChange fnExactShareGoresSpec)

/-- ITS FALSE NEIGHBOUR: 'it returns false'. Refute it at one input. -/
def fnExactShareGoresWrong : ChangeSpec := { name := "fnExactShareGores", fn := fun _ => fun
  | [d1, d2] => { results := [.lit (.bool false)], args := [d1, d2] }
  | _ => none }
def FnExactShareGoresWrongFalsely : Prop := fnExactShareGoresRow.holds Try.pinned (OpenSpec.ofChange fnExactShareGoresWrong)

/-- 'laws.FnExactQuickOrder': WHATEVER THE INPUT: true; the input reads as it did. -/
def fnExactQuickOrderSpec : ChangeSpec := { name := "fnExactQuickOrder", fn := fun _ => fun
  | [d1, d2, d3] => { results := [.lit (.bool true)], args := [d1, d2, d3] }
  | _ => none }
def fnExactQuickOrderRow : OpenClaim := { program := "ytfpddpkloplpeaa", sum := "256062345487d2c7832cd64b4b8802bc02af5a8c5e1e93c5ec649289c3642ea3", func := "loop.example/g01055/laws.FnExactQuickOrder", spec := "fnExactQuickOrder", unfollowed := true, recurses := true, apart := false }
def FnExactQuickOrderSaid : Prop := fnExactQuickOrderRow.holds Try.pinned (OpenSpec.ofChange fnExactQuickOrderSpec)

/-- ITS FALSE NEIGHBOUR: 'it returns false'. Refute it at one input. -/
def fnExactQuickOrderWrong : ChangeSpec := { name := "fnExactQuickOrder", fn := fun _ => fun
  | [d1, d2, d3] => { results := [.lit (.bool false)], args := [d1, d2, d3] }
  | _ => none }
def FnExactQuickOrderWrongFalsely : Prop := fnExactQuickOrderRow.holds Try.pinned (OpenSpec.ofChange fnExactQuickOrderWrong)

/-- 'laws.FnExactValidOrder': WHATEVER THE INPUT: true; the input reads as it did. -/
def fnExactValidOrderSpec : ChangeSpec := { name := "fnExactValidOrder", fn := fun _ => fun
  | [d] => { results := [.lit (.bool true)], args := [d] }
  | _ => none }
def fnExactValidOrderRow : OpenClaim := { program := "ytfpddpkloplpeaa", sum := "256062345487d2c7832cd64b4b8802bc02af5a8c5e1e93c5ec649289c3642ea3", func := "loop.example/g01055/laws.FnExactValidOrder", spec := "fnExactValidOrder", recurses := true, apart := false }
def FnExactValidOrderSaid : Prop := fnExactValidOrderRow.holds Try.pinned (OpenSpec.ofChange fnExactValidOrderSpec)

/-- ITS FALSE NEIGHBOUR: 'it returns false'. Refute it at one input. -/
def fnExactValidOrderWrong : ChangeSpec := { name := "fnExactValidOrder", fn := fun _ => fun
  | [d] => { results := [.lit (.bool false)], args := [d] }
  | _ => none }
def FnExactValidOrderWrongFalsely : Prop := fnExactValidOrderRow.holds Try.pinned (OpenSpec.ofChange fnExactValidOrderWrong)

/-- 'laws.FnExactUpperAt': WHATEVER THE INPUT: true; the input reads as it did. -/
def fnExactUpperAtSpec : ChangeSpec := { name := "fnExactUpperAt", fn := fun _ => fun
  | [d] => { results := [.lit (.bool true)], args := [d] }
  | _ => none }
def fnExactUpperAtRow : OpenClaim := { program := "ytfpddpkloplpeaa", sum := "256062345487d2c7832cd64b4b8802bc02af5a8c5e1e93c5ec649289c3642ea3", func := "loop.example/g01055/laws.FnExactUpperAt", spec := "fnExactUpperAt", recurses := true, apart := false }
def FnExactUpperAtSaid : Prop := fnExactUpperAtRow.holds Try.pinned (OpenSpec.ofChange fnExactUpperAtSpec)

/-- ITS FALSE NEIGHBOUR: 'it returns false'. Refute it at one input. -/
def fnExactUpperAtWrong : ChangeSpec := { name := "fnExactUpperAt", fn := fun _ => fun
  | [d] => { results := [.lit (.bool false)], args := [d] }
  | _ => none }
def FnExactUpperAtWrongFalsely : Prop := fnExactUpperAtRow.holds Try.pinned (OpenSpec.ofChange fnExactUpperAtWrong)

/-- 'laws.FnExactStartsOfPasting': WHATEVER THE INPUT: true; the input reads as it did. -/
def fnExactStartsOfPastingSpec : ChangeSpec := { name := "fnExactStartsOfPasting", fn := fun _ => fun
  | [d1, d2, d3] => { results := [.lit (.bool true)], args := [d1, d2, d3] }
  | _ => none }
def fnExactStartsOfPastingRow : OpenClaim := { program := "ytfpddpkloplpeaa", sum := "256062345487d2c7832cd64b4b8802bc02af5a8c5e1e93c5ec649289c3642ea3", func := "loop.example/g01055/laws.FnExactStartsOfPasting", spec := "fnExactStartsOfPasting", recurses := true, apart := false }
def FnExactStartsOfPastingSaid : Prop := fnExactStartsOfPastingRow.holds Try.pinned (OpenSpec.ofChange fnExactStartsOfPastingSpec)

/-- ITS FALSE NEIGHBOUR: 'it returns false'. Refute it at one input. -/
def fnExactStartsOfPastingWrong : ChangeSpec := { name := "fnExactStartsOfPasting", fn := fun _ => fun
  | [d1, d2, d3] => { results := [.lit (.bool false)], args := [d1, d2, d3] }
  | _ => none }
def FnExactStartsOfPastingWrongFalsely : Prop := fnExactStartsOfPastingRow.holds Try.pinned (OpenSpec.ofChange fnExactStartsOfPastingWrong)

/-- 'laws.FnExactEndOfPasting': WHATEVER THE INPUT: true; the input reads as it did. -/
def fnExactEndOfPastingSpec : ChangeSpec := { name := "fnExactEndOfPasting", fn := fun _ => fun
  | [d1, d2, d3] => { results := [.lit (.bool true)], args := [d1, d2, d3] }
  | _ => none }
def fnExactEndOfPastingRow : OpenClaim := { program := "ytfpddpkloplpeaa", sum := "256062345487d2c7832cd64b4b8802bc02af5a8c5e1e93c5ec649289c3642ea3", func := "loop.example/g01055/laws.FnExactEndOfPasting", spec := "fnExactEndOfPasting", recurses := true, apart := false }
def FnExactEndOfPastingSaid : Prop := fnExactEndOfPastingRow.holds Try.pinned (OpenSpec.ofChange fnExactEndOfPastingSpec)

/-- ITS FALSE NEIGHBOUR: 'it returns false'. Refute it at one input. -/
def fnExactEndOfPastingWrong : ChangeSpec := { name := "fnExactEndOfPasting", fn := fun _ => fun
  | [d1, d2, d3] => { results := [.lit (.bool false)], args := [d1, d2, d3] }
  | _ => none }
def FnExactEndOfPastingWrongFalsely : Prop := fnExactEndOfPastingRow.holds Try.pinned (OpenSpec.ofChange fnExactEndOfPastingWrong)

/-- 'laws.FnPasting': WHATEVER THE INPUT: true; the input reads as it did. -/
def fnPastingSpec : ChangeSpec := { name := "fnPasting", fn := fun _ => fun
  | [d] => { results := [.lit (.bool true)], args := [d] }
  | _ => none }
def fnPastingRow : OpenClaim := { program := "ytfpddpkloplpeaa", sum := "256062345487d2c7832cd64b4b8802bc02af5a8c5e1e93c5ec649289c3642ea3", func := "loop.example/g01055/laws.FnPasting", spec := "fnPasting", unfollowed := true, recurses := true, apart := false }
def FnPastingSaid : Prop := fnPastingRow.holds Try.pinned (OpenSpec.ofChange fnPastingSpec)

/-- ITS FALSE NEIGHBOUR: 'it returns false'. Refute it at one input. -/
def fnPastingWrong : ChangeSpec := { name := "fnPasting", fn := fun _ => fun
  | [d] => { results := [.lit (.bool false)], args := [d] }
  | _ => none }
def FnPastingWrongFalsely : Prop := fnPastingRow.holds Try.pinned (OpenSpec.ofChange fnPastingWrong)

/- THE SECOND FORM. 'bulk': how many values and letters a reading holds, each counted each time it is reached (what is shared counts as often as it is met; a slice's spare places count too). A statement '..UptoSaid' is the law's where the arguments, and the package variables that the reading takes, are together of bulk at most 1048576: NARROWER than '..Said'. Prove '..Said' where nothing that the law and all that it calls make is longer than what came in: it says more and counts as full. Else prove '..UptoSaid'. A law counts once. -/
mutual
def uptoBulk {H : Type} : DataW H → Nat
  | .lit (.string bytes) => bytes.length + 1
  | .lit _ => 1
  | .nil => 1
  | .ptr d => uptoBulk d + 1
  | .slice elems spare => uptoBulkAll elems + uptoBulkAll spare + 1
  | .agg parts => uptoBulkAll parts + 1
  | .iface _ d => uptoBulk d + 1
  | .map entries => uptoBulkEntries entries + 1
  | .held _ => 1
def uptoBulkAll {H : Type} : List (DataW H) → Nat
  | [] => 0
  | d :: r => uptoBulk d + uptoBulkAll r
def uptoBulkEntries {H : Type} : List (Lit × DataW H) → Nat
  | [] => 0
  | x :: r => uptoBulkEntry x + uptoBulkEntries r
def uptoBulkEntry {H : Type} : Lit × DataW H → Nat
  | (.string bytes, d) => bytes.length + uptoBulk d + 1
  | (_, d) => uptoBulk d + 1
 end
def uptoSmall : (H : Type) → List (DataW H) → Bool := fun _ ds => decide (uptoBulkAll ds ≤ 1048576)
def OpenSpec.upto (s : _root_.Go.ChangeSpec) : _root_.Go.OpenSpec := { _root_.Go.OpenSpec.ofChange s with cond := some uptoSmall }

/-- 'laws.FnExactHandsFor', WHERE WHAT IT READS IS OF BULK AT MOST 1048576: true; the input reads as it did. -/
def fnExactHandsForUptoRow : OpenClaim := { program := "ytfpddpkloplpeaa", sum := "256062345487d2c7832cd64b4b8802bc02af5a8c5e1e93c5ec649289c3642ea3", func := "loop.example/g01055/laws.FnExactHandsFor", spec := "fnExactHandsFor", apart := false, narrowed := true }
def FnExactHandsForUptoSaid : Prop := fnExactHandsForUptoRow.holds Try.pinned (OpenSpec.upto fnExactHandsForSpec)

/-- 'laws.FnExactShareGores', WHERE WHAT IT READS IS OF BULK AT MOST 1048576: true; the input reads as it did. -/
def fnExactShareGoresUptoRow : OpenClaim := { program := "ytfpddpkloplpeaa", sum := "256062345487d2c7832cd64b4b8802bc02af5a8c5e1e93c5ec649289c3642ea3", func := "loop.example/g01055/laws.FnExactShareGores", spec := "fnExactShareGores", apart := false, narrowed := true }
def FnExactShareGoresUptoSaid : Prop := fnExactShareGoresUptoRow.holds Try.pinned (OpenSpec.upto fnExactShareGoresSpec)

/-- 'laws.FnExactQuickOrder', WHERE WHAT IT READS IS OF BULK AT MOST 1048576: true; the input reads as it did. -/
def fnExactQuickOrderUptoRow : OpenClaim := { program := "ytfpddpkloplpeaa", sum := "256062345487d2c7832cd64b4b8802bc02af5a8c5e1e93c5ec649289c3642ea3", func := "loop.example/g01055/laws.FnExactQuickOrder", spec := "fnExactQuickOrder", unfollowed := true, recurses := true, apart := false, narrowed := true }
def FnExactQuickOrderUptoSaid : Prop := fnExactQuickOrderUptoRow.holds Try.pinned (OpenSpec.upto fnExactQuickOrderSpec)

/-- 'laws.FnExactValidOrder', WHERE WHAT IT READS IS OF BULK AT MOST 1048576: true; the input reads as it did. -/
def fnExactValidOrderUptoRow : OpenClaim := { program := "ytfpddpkloplpeaa", sum := "256062345487d2c7832cd64b4b8802bc02af5a8c5e1e93c5ec649289c3642ea3", func := "loop.example/g01055/laws.FnExactValidOrder", spec := "fnExactValidOrder", recurses := true, apart := false, narrowed := true }
def FnExactValidOrderUptoSaid : Prop := fnExactValidOrderUptoRow.holds Try.pinned (OpenSpec.upto fnExactValidOrderSpec)

/-- 'laws.FnExactUpperAt', WHERE WHAT IT READS IS OF BULK AT MOST 1048576: true; the input reads as it did. -/
def fnExactUpperAtUptoRow : OpenClaim := { program := "ytfpddpkloplpeaa", sum := "256062345487d2c7832cd64b4b8802bc02af5a8c5e1e93c5ec649289c3642ea3", func := "loop.example/g01055/laws.FnExactUpperAt", spec := "fnExactUpperAt", recurses := true, apart := false, narrowed := true }
def FnExactUpperAtUptoSaid : Prop := fnExactUpperAtUptoRow.holds Try.pinned (OpenSpec.upto fnExactUpperAtSpec)

/-- 'laws.FnExactStartsOfPasting', WHERE WHAT IT READS IS OF BULK AT MOST 1048576: true; the input reads as it did. -/
def fnExactStartsOfPastingUptoRow : OpenClaim := { program := "ytfpddpkloplpeaa", sum := "256062345487d2c7832cd64b4b8802bc02af5a8c5e1e93c5ec649289c3642ea3", func := "loop.example/g01055/laws.FnExactStartsOfPasting", spec := "fnExactStartsOfPasting", recurses := true, apart := false, narrowed := true }
def FnExactStartsOfPastingUptoSaid : Prop := fnExactStartsOfPastingUptoRow.holds Try.pinned (OpenSpec.upto fnExactStartsOfPastingSpec)

/-- 'laws.FnExactEndOfPasting', WHERE WHAT IT READS IS OF BULK AT MOST 1048576: true; the input reads as it did. -/
def fnExactEndOfPastingUptoRow : OpenClaim := { program := "ytfpddpkloplpeaa", sum := "256062345487d2c7832cd64b4b8802bc02af5a8c5e1e93c5ec649289c3642ea3", func := "loop.example/g01055/laws.FnExactEndOfPasting", spec := "fnExactEndOfPasting", recurses := true, apart := false, narrowed := true }
def FnExactEndOfPastingUptoSaid : Prop := fnExactEndOfPastingUptoRow.holds Try.pinned (OpenSpec.upto fnExactEndOfPastingSpec)

/-- 'laws.FnPasting', WHERE WHAT IT READS IS OF BULK AT MOST 1048576: true; the input reads as it did. -/
def fnPastingUptoRow : OpenClaim := { program := "ytfpddpkloplpeaa", sum := "256062345487d2c7832cd64b4b8802bc02af5a8c5e1e93c5ec649289c3642ea3", func := "loop.example/g01055/laws.FnPasting", spec := "fnPasting", unfollowed := true, recurses := true, apart := false, narrowed := true }
def FnPastingUptoSaid : Prop := fnPastingUptoRow.holds Try.pinned (OpenSpec.upto fnPastingSpec)

end Rows
end Go.Proofs.Ytfpddpkloplpeaa
