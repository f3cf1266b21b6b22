/-
  No cell of these rows narrows 'for every input' (looked for: loops, veiled, ifaces, maps, wideKeys, modest, calm, conditions, laid).
  DERIVED. THE GIVEN ROWS OF THIS SEAT. 12 by the template 'for every input the law returns true; each argument reads behind the call as it read before'; 0 by the template 'total and deterministic' (their statements: YtfajacoagaamlaaTotals.lean).
  GIVEN WITH THE SEED: the statements are not yours to turn. If you find one false, say at which input.
  Laid BY PROGRAM, IN A SANDBOX (cutbox-rows.mjs): the forced cells as the released guide's own fill.sh prints them over the translation 66cc292c1b18958f… (all of the seat's roots in one cut). By AI agents, Wed Nov 11 2026. No macro, syntax, notation, axiom, sorry.
-/
import Derived.Test.YtfajacoagaamlaaChecked
import GoSem.Claim
import GoSem.ClaimJoined
import GoSem.ClaimMapViews
import Derived.JoinedTies
import Derived.KernelRfl
namespace Go.Proofs.Ytfajacoagaamlaa
/- THE CELL 'sum', in the pinned program and in every row, IS THE sha256 OF THE DUMP (.gsa) THAT YtfajacoagaamlaaProg.lean LOADS. Nothing in Lean hashes anything: it is a label: what it is worth is what the hold of that sum in a sandbox is worth. -/
noncomputable def Try.pinned : Pinned := { name := "ytfajacoagaamlaa", sum := "66cc292c1b18958f53806c66327e47b4b18c9f8e61929f1fe03d15b2d0d311cf", checked := Try.checked }
namespace Rows
def none {H : Type} : Left H := { results := [], args := [] }

/-- 'laws.FnExactValidStates': WHATEVER THE INPUT: true; the input reads as it did. -/
def fnExactValidStatesSpec : ChangeSpec := { name := "fnExactValidStates", fn := fun _ => fun
  | [d] => { results := [.lit (.bool true)], args := [d] }
  | _ => none }
def fnExactValidStatesRow : OpenClaim := { program := "ytfajacoagaamlaa", sum := "66cc292c1b18958f53806c66327e47b4b18c9f8e61929f1fe03d15b2d0d311cf", func := "loop.example/g01055/laws.FnExactValidStates", spec := "fnExactValidStates", unfollowed := true, recurses := true, apart := false }
def FnExactValidStatesSaid : Prop := fnExactValidStatesRow.holds Try.pinned (OpenSpec.ofChange fnExactValidStatesSpec)

/-- ITS FALSE NEIGHBOUR: 'it returns false'. Refute it at one input. -/
def fnExactValidStatesWrong : ChangeSpec := { name := "fnExactValidStates", fn := fun _ => fun
  | [d] => { results := [.lit (.bool false)], args := [d] }
  | _ => none }
def FnExactValidStatesWrongFalsely : Prop := fnExactValidStatesRow.holds Try.pinned (OpenSpec.ofChange fnExactValidStatesWrong)

/-- 'laws.FnExactStatesText': WHATEVER THE INPUT: true; the input reads as it did. -/
def fnExactStatesTextSpec : ChangeSpec := { name := "fnExactStatesText", fn := fun _ => fun
  | [d] => { results := [.lit (.bool true)], args := [d] }
  | _ => none }
def fnExactStatesTextRow : OpenClaim := { program := "ytfajacoagaamlaa", sum := "66cc292c1b18958f53806c66327e47b4b18c9f8e61929f1fe03d15b2d0d311cf", func := "loop.example/g01055/laws.FnExactStatesText", spec := "fnExactStatesText", unfollowed := true, recurses := true, apart := false }
def FnExactStatesTextSaid : Prop := fnExactStatesTextRow.holds Try.pinned (OpenSpec.ofChange fnExactStatesTextSpec)

/-- ITS FALSE NEIGHBOUR: 'it returns false'. Refute it at one input. -/
def fnExactStatesTextWrong : ChangeSpec := { name := "fnExactStatesText", fn := fun _ => fun
  | [d] => { results := [.lit (.bool false)], args := [d] }
  | _ => none }
def FnExactStatesTextWrongFalsely : Prop := fnExactStatesTextRow.holds Try.pinned (OpenSpec.ofChange fnExactStatesTextWrong)

/-- 'laws.FnExactCountStates': WHATEVER THE INPUT: true; the input reads as it did. -/
def fnExactCountStatesSpec : ChangeSpec := { name := "fnExactCountStates", fn := fun _ => fun
  | [d] => { results := [.lit (.bool true)], args := [d] }
  | _ => none }
def fnExactCountStatesRow : OpenClaim := { program := "ytfajacoagaamlaa", sum := "66cc292c1b18958f53806c66327e47b4b18c9f8e61929f1fe03d15b2d0d311cf", func := "loop.example/g01055/laws.FnExactCountStates", spec := "fnExactCountStates", unfollowed := true, recurses := true, apart := false }
def FnExactCountStatesSaid : Prop := fnExactCountStatesRow.holds Try.pinned (OpenSpec.ofChange fnExactCountStatesSpec)

/-- ITS FALSE NEIGHBOUR: 'it returns false'. Refute it at one input. -/
def fnExactCountStatesWrong : ChangeSpec := { name := "fnExactCountStates", fn := fun _ => fun
  | [d] => { results := [.lit (.bool false)], args := [d] }
  | _ => none }
def FnExactCountStatesWrongFalsely : Prop := fnExactCountStatesRow.holds Try.pinned (OpenSpec.ofChange fnExactCountStatesWrong)

/-- 'laws.FnExactNotOriginal': WHATEVER THE INPUT: true; the input reads as it did. -/
def fnExactNotOriginalSpec : ChangeSpec := { name := "fnExactNotOriginal", fn := fun _ => fun
  | [d] => { results := [.lit (.bool true)], args := [d] }
  | _ => none }
def fnExactNotOriginalRow : OpenClaim := { program := "ytfajacoagaamlaa", sum := "66cc292c1b18958f53806c66327e47b4b18c9f8e61929f1fe03d15b2d0d311cf", func := "loop.example/g01055/laws.FnExactNotOriginal", spec := "fnExactNotOriginal", unfollowed := true, recurses := true, apart := false }
def FnExactNotOriginalSaid : Prop := fnExactNotOriginalRow.holds Try.pinned (OpenSpec.ofChange fnExactNotOriginalSpec)

/-- ITS FALSE NEIGHBOUR: 'it returns false'. Refute it at one input. -/
def fnExactNotOriginalWrong : ChangeSpec := { name := "fnExactNotOriginal", fn := fun _ => fun
  | [d] => { results := [.lit (.bool false)], args := [d] }
  | _ => none }
def FnExactNotOriginalWrongFalsely : Prop := fnExactNotOriginalRow.holds Try.pinned (OpenSpec.ofChange fnExactNotOriginalWrong)

/-- 'laws.FnExactReadStates': WHATEVER THE INPUT: true; the input reads as it did. -/
def fnExactReadStatesSpec : ChangeSpec := { name := "fnExactReadStates", fn := fun _ => fun
  | [d] => { results := [.lit (.bool true)], args := [d] }
  | _ => none }
def fnExactReadStatesRow : OpenClaim := { program := "ytfajacoagaamlaa", sum := "66cc292c1b18958f53806c66327e47b4b18c9f8e61929f1fe03d15b2d0d311cf", func := "loop.example/g01055/laws.FnExactReadStates", spec := "fnExactReadStates", inPlace := ["internal/bytealg.IndexByteString"], unfollowed := true, recurses := true, apart := false }
def FnExactReadStatesSaid : Prop := fnExactReadStatesRow.holds Try.pinned (OpenSpec.ofChange fnExactReadStatesSpec)

/-- ITS FALSE NEIGHBOUR: 'it returns false'. Refute it at one input. -/
def fnExactReadStatesWrong : ChangeSpec := { name := "fnExactReadStates", fn := fun _ => fun
  | [d] => { results := [.lit (.bool false)], args := [d] }
  | _ => none }
def FnExactReadStatesWrongFalsely : Prop := fnExactReadStatesRow.holds Try.pinned (OpenSpec.ofChange fnExactReadStatesWrong)

/-- 'laws.FnExactShareNotOriginal': WHATEVER THE INPUT: true; the input reads as it did. -/
def fnExactShareNotOriginalSpec : ChangeSpec := { name := "fnExactShareNotOriginal", fn := fun _ => fun
  | [d] => { results := [.lit (.bool true)], args := [d] }
  | _ => none }
def fnExactShareNotOriginalRow : OpenClaim := { program := "ytfajacoagaamlaa", sum := "66cc292c1b18958f53806c66327e47b4b18c9f8e61929f1fe03d15b2d0d311cf", func := "loop.example/g01055/laws.FnExactShareNotOriginal", spec := "fnExactShareNotOriginal", unfollowed := true, recurses := true, apart := false }
def FnExactShareNotOriginalSaid : Prop := fnExactShareNotOriginalRow.holds Try.pinned (OpenSpec.ofChange fnExactShareNotOriginalSpec)

/-- ITS FALSE NEIGHBOUR: 'it returns false'. Refute it at one input. -/
def fnExactShareNotOriginalWrong : ChangeSpec := { name := "fnExactShareNotOriginal", fn := fun _ => fun
  | [d] => { results := [.lit (.bool false)], args := [d] }
  | _ => none }
def FnExactShareNotOriginalWrongFalsely : Prop := fnExactShareNotOriginalRow.holds Try.pinned (OpenSpec.ofChange fnExactShareNotOriginalWrong)

/-- 'laws.FnExactApplyRepairs': WHATEVER THE INPUT: true; the input reads as it did. -/
def fnExactApplyRepairsSpec : ChangeSpec := { name := "fnExactApplyRepairs", fn := fun _ => fun
  | [d1, d2] => { results := [.lit (.bool true)], args := [d1, d2] }
  | _ => none }
def fnExactApplyRepairsRow : OpenClaim := { program := "ytfajacoagaamlaa", sum := "66cc292c1b18958f53806c66327e47b4b18c9f8e61929f1fe03d15b2d0d311cf", func := "loop.example/g01055/laws.FnExactApplyRepairs", spec := "fnExactApplyRepairs", unfollowed := true, recurses := true, apart := false }
def FnExactApplyRepairsSaid : Prop := fnExactApplyRepairsRow.holds Try.pinned (OpenSpec.ofChange fnExactApplyRepairsSpec)

/-- ITS FALSE NEIGHBOUR: 'it returns false'. Refute it at one input. -/
def fnExactApplyRepairsWrong : ChangeSpec := { name := "fnExactApplyRepairs", fn := fun _ => fun
  | [d1, d2] => { results := [.lit (.bool false)], args := [d1, d2] }
  | _ => none }
def FnExactApplyRepairsWrongFalsely : Prop := fnExactApplyRepairsRow.holds Try.pinned (OpenSpec.ofChange fnExactApplyRepairsWrong)

/-- 'laws.FnExactUndoRepairs': WHATEVER THE INPUT: true; the input reads as it did. -/
def fnExactUndoRepairsSpec : ChangeSpec := { name := "fnExactUndoRepairs", fn := fun _ => fun
  | [d1, d2] => { results := [.lit (.bool true)], args := [d1, d2] }
  | _ => none }
def fnExactUndoRepairsRow : OpenClaim := { program := "ytfajacoagaamlaa", sum := "66cc292c1b18958f53806c66327e47b4b18c9f8e61929f1fe03d15b2d0d311cf", func := "loop.example/g01055/laws.FnExactUndoRepairs", spec := "fnExactUndoRepairs", unfollowed := true, recurses := true, apart := false }
def FnExactUndoRepairsSaid : Prop := fnExactUndoRepairsRow.holds Try.pinned (OpenSpec.ofChange fnExactUndoRepairsSpec)

/-- ITS FALSE NEIGHBOUR: 'it returns false'. Refute it at one input. -/
def fnExactUndoRepairsWrong : ChangeSpec := { name := "fnExactUndoRepairs", fn := fun _ => fun
  | [d1, d2] => { results := [.lit (.bool false)], args := [d1, d2] }
  | _ => none }
def FnExactUndoRepairsWrongFalsely : Prop := fnExactUndoRepairsRow.holds Try.pinned (OpenSpec.ofChange fnExactUndoRepairsWrong)

/-- 'laws.FnExactRepairsFor': WHATEVER THE INPUT: true; the input reads as it did. -/
def fnExactRepairsForSpec : ChangeSpec := { name := "fnExactRepairsFor", fn := fun _ => fun
  | [d1, d2] => { results := [.lit (.bool true)], args := [d1, d2] }
  | _ => none }
def fnExactRepairsForRow : OpenClaim := { program := "ytfajacoagaamlaa", sum := "66cc292c1b18958f53806c66327e47b4b18c9f8e61929f1fe03d15b2d0d311cf", func := "loop.example/g01055/laws.FnExactRepairsFor", spec := "fnExactRepairsFor", unfollowed := true, recurses := true, apart := false }
def FnExactRepairsForSaid : Prop := fnExactRepairsForRow.holds Try.pinned (OpenSpec.ofChange fnExactRepairsForSpec)

/-- ITS FALSE NEIGHBOUR: 'it returns false'. Refute it at one input. -/
def fnExactRepairsForWrong : ChangeSpec := { name := "fnExactRepairsFor", fn := fun _ => fun
  | [d1, d2] => { results := [.lit (.bool false)], args := [d1, d2] }
  | _ => none }
def FnExactRepairsForWrongFalsely : Prop := fnExactRepairsForRow.holds Try.pinned (OpenSpec.ofChange fnExactRepairsForWrong)

/-- 'laws.FnExactFewestCopies': WHATEVER THE INPUT: true; the input reads as it did. -/
def fnExactFewestCopiesSpec : ChangeSpec := { name := "fnExactFewestCopies", fn := fun _ => fun
  | [d1, d2] => { results := [.lit (.bool true)], args := [d1, d2] }
  | _ => none }
def fnExactFewestCopiesRow : OpenClaim := { program := "ytfajacoagaamlaa", sum := "66cc292c1b18958f53806c66327e47b4b18c9f8e61929f1fe03d15b2d0d311cf", func := "loop.example/g01055/laws.FnExactFewestCopies", spec := "fnExactFewestCopies", unfollowed := true, recurses := true, apart := false }
def FnExactFewestCopiesSaid : Prop := fnExactFewestCopiesRow.holds Try.pinned (OpenSpec.ofChange fnExactFewestCopiesSpec)

/-- ITS FALSE NEIGHBOUR: 'it returns false'. Refute it at one input. -/
def fnExactFewestCopiesWrong : ChangeSpec := { name := "fnExactFewestCopies", fn := fun _ => fun
  | [d1, d2] => { results := [.lit (.bool false)], args := [d1, d2] }
  | _ => none }
def FnExactFewestCopiesWrongFalsely : Prop := fnExactFewestCopiesRow.holds Try.pinned (OpenSpec.ofChange fnExactFewestCopiesWrong)

/-- 'laws.FnCopiesUsed': WHATEVER THE INPUT: true; the input reads as it did. -/
def fnCopiesUsedSpec : ChangeSpec := { name := "fnCopiesUsed", fn := fun _ => fun
  | [d] => { results := [.lit (.bool true)], args := [d] }
  | _ => none }
def fnCopiesUsedRow : OpenClaim := { program := "ytfajacoagaamlaa", sum := "66cc292c1b18958f53806c66327e47b4b18c9f8e61929f1fe03d15b2d0d311cf", func := "loop.example/g01055/laws.FnCopiesUsed", spec := "fnCopiesUsed", unfollowed := true, recurses := true, apart := false }
def FnCopiesUsedSaid : Prop := fnCopiesUsedRow.holds Try.pinned (OpenSpec.ofChange fnCopiesUsedSpec)

/-- ITS FALSE NEIGHBOUR: 'it returns false'. Refute it at one input. -/
def fnCopiesUsedWrong : ChangeSpec := { name := "fnCopiesUsed", fn := fun _ => fun
  | [d] => { results := [.lit (.bool false)], args := [d] }
  | _ => none }
def FnCopiesUsedWrongFalsely : Prop := fnCopiesUsedRow.holds Try.pinned (OpenSpec.ofChange fnCopiesUsedWrong)

/-- 'laws.FnRepairs': WHATEVER THE INPUT: true; the input reads as it did. -/
def fnRepairsSpec : ChangeSpec := { name := "fnRepairs", fn := fun _ => fun
  | [d] => { results := [.lit (.bool true)], args := [d] }
  | _ => none }
def fnRepairsRow : OpenClaim := { program := "ytfajacoagaamlaa", sum := "66cc292c1b18958f53806c66327e47b4b18c9f8e61929f1fe03d15b2d0d311cf", func := "loop.example/g01055/laws.FnRepairs", spec := "fnRepairs", inPlace := ["internal/bytealg.IndexByteString"], unfollowed := true, recurses := true, apart := false }
def FnRepairsSaid : Prop := fnRepairsRow.holds Try.pinned (OpenSpec.ofChange fnRepairsSpec)

/-- ITS FALSE NEIGHBOUR: 'it returns false'. Refute it at one input. -/
def fnRepairsWrong : ChangeSpec := { name := "fnRepairs", fn := fun _ => fun
  | [d] => { results := [.lit (.bool false)], args := [d] }
  | _ => none }
def FnRepairsWrongFalsely : Prop := fnRepairsRow.holds Try.pinned (OpenSpec.ofChange fnRepairsWrong)

/- THE SECOND FORM. 'bulk': how many values and letters a reading holds, each counted each time it is reached (what is shared counts as often as it is met; a slice's spare places count too). A statement '..UptoSaid' is the law's where the arguments, and the package variables that the reading takes, are together of bulk at most 1048576: NARROWER than '..Said'. Prove '..Said' where nothing that the law and all that it calls make is longer than what came in: it says more and counts as full. Else prove '..UptoSaid'. A law counts once. -/
mutual
def uptoBulk {H : Type} : DataW H → Nat
  | .lit (.string bytes) => bytes.length + 1
  | .lit _ => 1
  | .nil => 1
  | .ptr d => uptoBulk d + 1
  | .slice elems spare => uptoBulkAll elems + uptoBulkAll spare + 1
  | .agg parts => uptoBulkAll parts + 1
  | .iface _ d => uptoBulk d + 1
  | .map entries => uptoBulkEntries entries + 1
  | .held _ => 1
def uptoBulkAll {H : Type} : List (DataW H) → Nat
  | [] => 0
  | d :: r => uptoBulk d + uptoBulkAll r
def uptoBulkEntries {H : Type} : List (Lit × DataW H) → Nat
  | [] => 0
  | x :: r => uptoBulkEntry x + uptoBulkEntries r
def uptoBulkEntry {H : Type} : Lit × DataW H → Nat
  | (.string bytes, d) => bytes.length + uptoBulk d + 1
  | (_, d) => uptoBulk d + 1
 end
def uptoSmall : (H : Type) → List (DataW H) → Bool := fun _ ds => decide (uptoBulkAll ds ≤ 1048576)
def OpenSpec.upto (s : _root_.Go.ChangeSpec) : _root_.Go.OpenSpec := { _root_.Go.OpenSpec.ofChange s with cond := some uptoSmall }

/-- 'laws.FnExactValidStates', WHERE WHAT IT READS IS OF BULK AT MOST 1048576: true; the input reads as it did. -/
def fnExactValidStatesUptoRow : OpenClaim := { program := "ytfajacoagaamlaa", sum := "66cc292c1b18958f53806c66327e47b4b18c9f8e61929f1fe03d15b2d0d311cf", func := "loop.example/g01055/laws.FnExactValidStates", spec := "fnExactValidStates", unfollowed := true, recurses := true, apart := false, narrowed := true }
def FnExactValidStatesUptoSaid : Prop := fnExactValidStatesUptoRow.holds Try.pinned (OpenSpec.upto fnExactValidStatesSpec)

/-- 'laws.FnExactStatesText', WHERE WHAT IT READS IS OF BULK AT MOST 1048576: true; the input reads as it did. -/
def fnExactStatesTextUptoRow : OpenClaim := { program := "ytfajacoagaamlaa", sum := "66cc292c1b18958f53806c66327e47b4b18c9f8e61929f1fe03d15b2d0d311cf", func := "loop.example/g01055/laws.FnExactStatesText", spec := "fnExactStatesText", unfollowed := true, recurses := true, apart := false, narrowed := true }
def FnExactStatesTextUptoSaid : Prop := fnExactStatesTextUptoRow.holds Try.pinned (OpenSpec.upto fnExactStatesTextSpec)

/-- 'laws.FnExactCountStates', WHERE WHAT IT READS IS OF BULK AT MOST 1048576: true; the input reads as it did. -/
def fnExactCountStatesUptoRow : OpenClaim := { program := "ytfajacoagaamlaa", sum := "66cc292c1b18958f53806c66327e47b4b18c9f8e61929f1fe03d15b2d0d311cf", func := "loop.example/g01055/laws.FnExactCountStates", spec := "fnExactCountStates", unfollowed := true, recurses := true, apart := false, narrowed := true }
def FnExactCountStatesUptoSaid : Prop := fnExactCountStatesUptoRow.holds Try.pinned (OpenSpec.upto fnExactCountStatesSpec)

/-- 'laws.FnExactNotOriginal', WHERE WHAT IT READS IS OF BULK AT MOST 1048576: true; the input reads as it did. -/
def fnExactNotOriginalUptoRow : OpenClaim := { program := "ytfajacoagaamlaa", sum := "66cc292c1b18958f53806c66327e47b4b18c9f8e61929f1fe03d15b2d0d311cf", func := "loop.example/g01055/laws.FnExactNotOriginal", spec := "fnExactNotOriginal", unfollowed := true, recurses := true, apart := false, narrowed := true }
def FnExactNotOriginalUptoSaid : Prop := fnExactNotOriginalUptoRow.holds Try.pinned (OpenSpec.upto fnExactNotOriginalSpec)

/-- 'laws.FnExactReadStates', WHERE WHAT IT READS IS OF BULK AT MOST 1048576: true; the input reads as it did. -/
def fnExactReadStatesUptoRow : OpenClaim := { program := "ytfajacoagaamlaa", sum := "66cc292c1b18958f53806c66327e47b4b18c9f8e61929f1fe03d15b2d0d311cf", func := "loop.example/g01055/laws.FnExactReadStates", spec := "fnExactReadStates", inPlace := ["internal/bytealg.IndexByteString"], unfollowed := true, recurses := true, apart := false, narrowed := true }
def FnExactReadStatesUptoSaid : Prop := fnExactReadStatesUptoRow.holds Try.pinned (OpenSpec.upto fnExactReadStatesSpec)

/-- 'laws.FnExactShareNotOriginal', WHERE WHAT IT READS IS OF BULK AT MOST 1048576: true; the input reads as it did. -/
def fnExactShareNotOriginalUptoRow : OpenClaim := { program := "ytfajacoagaamlaa", sum := "66cc292c1b18958f53806c66327e47b4b18c9f8e61929f1fe03d15b2d0d311cf", func := "loop.example/g01055/laws.FnExactShareNotOriginal", spec := "fnExactShareNotOriginal", unfollowed := true, recurses := true, apart := false, narrowed := true }
def FnExactShareNotOriginalUptoSaid : Prop := fnExactShareNotOriginalUptoRow.holds Try.pinned (OpenSpec.upto fnExactShareNotOriginalSpec)

/-- 'laws.FnExactApplyRepairs', WHERE WHAT IT READS IS OF BULK AT MOST 1048576: true; the input reads as it did. -/
def fnExactApplyRepairsUptoRow : OpenClaim := { program := "ytfajacoagaamlaa", sum := "66cc292c1b18958f53806c66327e47b4b18c9f8e61929f1fe03d15b2d0d311cf", func := "loop.example/g01055/laws.FnExactApplyRepairs", spec := "fnExactApplyRepairs", unfollowed := true, recurses := true, apart := false, narrowed := true }
def FnExactApplyRepairsUptoSaid : Prop := fnExactApplyRepairsUptoRow.holds Try.pinned (OpenSpec.upto fnExactApplyRepairsSpec)

/-- 'laws.FnExactUndoRepairs', WHERE WHAT IT READS IS OF BULK AT MOST 1048576: true; the input reads as it did. -/
def fnExactUndoRepairsUptoRow : OpenClaim := { program := "ytfajacoagaamlaa", sum := "66cc292c1b18958f53806c66327e47b4b18c9f8e61929f1fe03d15b2d0d311cf", func := "loop.example/g01055/laws.FnExactUndoRepairs", spec := "fnExactUndoRepairs", unfollowed := true, recurses := true, apart := false, narrowed := true }
def FnExactUndoRepairsUptoSaid : Prop := fnExactUndoRepairsUptoRow.holds Try.pinned (OpenSpec.upto fnExactUndoRepairsSpec)

/-- 'laws.FnExactRepairsFor', WHERE WHAT IT READS IS OF BULK AT MOST 1048576: true; the input reads as it did. -/
def fnExactRepairsForUptoRow : OpenClaim := { program := "ytfajacoagaamlaa", sum := "66cc292c1b18958f53806c66327e47b4b18c9f8e61929f1fe03d15b2d0d311cf", func := "loop.example/g01055/laws.FnExactRepairsFor", spec := "fnExactRepairsFor", unfollowed := true, recurses := true, apart := false, narrowed := true }
def FnExactRepairsForUptoSaid : Prop := fnExactRepairsForUptoRow.holds Try.pinned (OpenSpec.upto fnExactRepairsForSpec)

/-- 'laws.FnExactFewestCopies', WHERE WHAT IT READS IS OF BULK AT MOST 1048576: true; the input reads as it did. -/
def fnExactFewestCopiesUptoRow : OpenClaim := { program := "ytfajacoagaamlaa", sum := "66cc292c1b18958f53806c66327e47b4b18c9f8e61929f1fe03d15b2d0d311cf", func := "loop.example/g01055/laws.FnExactFewestCopies", spec := "fnExactFewestCopies", unfollowed := true, recurses := true, apart := false, narrowed := true }
def FnExactFewestCopiesUptoSaid : Prop := fnExactFewestCopiesUptoRow.holds Try.pinned (OpenSpec.upto fnExactFewestCopiesSpec)

/-- 'laws.FnCopiesUsed', WHERE WHAT IT READS IS OF BULK AT MOST 1048576: true; the input reads as it did. -/
def fnCopiesUsedUptoRow : OpenClaim := { program := "ytfajacoagaamlaa", sum := "66cc292c1b18958f53806c66327e47b4b18c9f8e61929f1fe03d15b2d0d311cf", func := "loop.example/g01055/laws.FnCopiesUsed", spec := "fnCopiesUsed", unfollowed := true, recurses := true, apart := false, narrowed := true }
def FnCopiesUsedUptoSaid : Prop := fnCopiesUsedUptoRow.holds Try.pinned (OpenSpec.upto fnCopiesUsedSpec)

/-- 'laws.FnRepairs', WHERE WHAT IT READS IS OF BULK AT MOST 1048576: true; the input reads as it did. -/
def fnRepairsUptoRow : OpenClaim := { program := "ytfajacoagaamlaa", sum := "66cc292c1b18958f53806c66327e47b4b18c9f8e61929f1fe03d15b2d0d311cf", func := "loop.example/g01055/laws.FnRepairs", spec := "fnRepairs", inPlace := ["internal/bytealg.IndexByteString"], unfollowed := true, recurses := true, apart := false, narrowed := true }
def FnRepairsUptoSaid : Prop := fnRepairsUptoRow.holds Try.pinned (OpenSpec.upto fnRepairsSpec)

end Rows
end Go.Proofs.Ytfajacoagaamlaa
