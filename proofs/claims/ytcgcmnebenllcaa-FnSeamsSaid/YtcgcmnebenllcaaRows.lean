/-
  No cell of these rows narrows 'for every input' (looked for: loops, veiled, ifaces, maps, wideKeys, modest, calm, conditions, laid).
  DERIVED. THE GIVEN ROWS OF THIS SEAT. 11 by the template 'for every input the law returns true; each argument reads behind the call as it read before'; 0 by the template 'total and deterministic' (their statements: YtcgcmnebenllcaaTotals.lean).
  GIVEN WITH THE SEED: the statements are not yours to turn. If you find one false, say at which input.
  Laid BY PROGRAM, IN A SANDBOX (cutbox-rows.mjs): the forced cells as the released guide's own fill.sh prints them over the translation 4ab1fd6d4fb42fb8… (all of the seat's roots in one cut). By AI agents, Wed Nov 11 2026. No macro, syntax, notation, axiom, sorry.
-/
import Derived.Test.YtcgcmnebenllcaaChecked
import GoSem.Claim
import GoSem.ClaimJoined
import GoSem.ClaimMapViews
import Derived.JoinedTies
import Derived.KernelRfl
namespace Go.Proofs.Ytcgcmnebenllcaa
/- THE CELL 'sum', in the pinned program and in every row, IS THE sha256 OF THE DUMP (.gsa) THAT YtcgcmnebenllcaaProg.lean LOADS. Nothing in Lean hashes anything: it is a label: what it is worth is what the hold of that sum in a sandbox is worth. -/
noncomputable def Try.pinned : Pinned := { name := "ytcgcmnebenllcaa", sum := "4ab1fd6d4fb42fb87803d7779ca55fc5253f3a8d6bb86441d35104937ddc3e20", checked := Try.checked }
namespace Rows
def none {H : Type} : Left H := { results := [], args := [] }

/-- 'laws.FnExactValidSeams': WHATEVER THE INPUT: true; the input reads as it did. -/
def fnExactValidSeamsSpec : ChangeSpec := { name := "fnExactValidSeams", fn := fun _ => fun
  | [d] => { results := [.lit (.bool true)], args := [d] }
  | _ => none }
def fnExactValidSeamsRow : OpenClaim := { program := "ytcgcmnebenllcaa", sum := "4ab1fd6d4fb42fb87803d7779ca55fc5253f3a8d6bb86441d35104937ddc3e20", func := "loop.example/g01055/laws.FnExactValidSeams", spec := "fnExactValidSeams", unfollowed := true, recurses := true, apart := false }
def FnExactValidSeamsSaid : Prop := fnExactValidSeamsRow.holds Try.pinned (OpenSpec.ofChange fnExactValidSeamsSpec)

/-- ITS FALSE NEIGHBOUR: 'it returns false'. Refute it at one input. -/
def fnExactValidSeamsWrong : ChangeSpec := { name := "fnExactValidSeams", fn := fun _ => fun
  | [d] => { results := [.lit (.bool false)], args := [d] }
  | _ => none }
def FnExactValidSeamsWrongFalsely : Prop := fnExactValidSeamsRow.holds Try.pinned (OpenSpec.ofChange fnExactValidSeamsWrong)

/-- 'laws.FnExactClosingBounds': WHATEVER THE INPUT: true; the input reads as it did. -/
def fnExactClosingBoundsSpec : ChangeSpec := { name := "fnExactClosingBounds", fn := fun _ => fun
  | [d1, d2, d3] => { results := [.lit (.bool true)], args := [d1, d2, d3] }
  | _ => none }
def fnExactClosingBoundsRow : OpenClaim := { program := "ytcgcmnebenllcaa", sum := "4ab1fd6d4fb42fb87803d7779ca55fc5253f3a8d6bb86441d35104937ddc3e20", func := "loop.example/g01055/laws.FnExactClosingBounds", spec := "fnExactClosingBounds", unfollowed := true, recurses := true, apart := false }
def FnExactClosingBoundsSaid : Prop := fnExactClosingBoundsRow.holds Try.pinned (OpenSpec.ofChange fnExactClosingBoundsSpec)

/-- ITS FALSE NEIGHBOUR: 'it returns false'. Refute it at one input. -/
def fnExactClosingBoundsWrong : ChangeSpec := { name := "fnExactClosingBounds", fn := fun _ => fun
  | [d1, d2, d3] => { results := [.lit (.bool false)], args := [d1, d2, d3] }
  | _ => none }
def FnExactClosingBoundsWrongFalsely : Prop := fnExactClosingBoundsRow.holds Try.pinned (OpenSpec.ofChange fnExactClosingBoundsWrong)

/-- 'laws.FnSeams': WHATEVER THE INPUT: true; the input reads as it did. -/
def fnSeamsSpec : ChangeSpec := { name := "fnSeams", fn := fun _ => fun
  | [d1, d2] => { results := [.lit (.bool true)], args := [d1, d2] }
  | _ => none }
def fnSeamsRow : OpenClaim := { program := "ytcgcmnebenllcaa", sum := "4ab1fd6d4fb42fb87803d7779ca55fc5253f3a8d6bb86441d35104937ddc3e20", func := "loop.example/g01055/laws.FnSeams", spec := "fnSeams", unfollowed := true, recurses := true, apart := false }
def FnSeamsSaid : Prop := fnSeamsRow.holds Try.pinned (OpenSpec.ofChange fnSeamsSpec)

/-- ITS FALSE NEIGHBOUR: 'it returns false'. Refute it at one input. -/
def fnSeamsWrong : ChangeSpec := { name := "fnSeams", fn := fun _ => fun
  | [d1, d2] => { results := [.lit (.bool false)], args := [d1, d2] }
  | _ => none }
def FnSeamsWrongFalsely : Prop := fnSeamsRow.holds Try.pinned (OpenSpec.ofChange fnSeamsWrong)

/-- 'laws.FnExactClosingError': WHATEVER THE INPUT: true; the input reads as it did. -/
def fnExactClosingErrorSpec : ChangeSpec := { name := "fnExactClosingError", fn := fun _ => fun
  | [d] => { results := [.lit (.bool true)], args := [d] }
  | _ => none }
def fnExactClosingErrorRow : OpenClaim := { program := "ytcgcmnebenllcaa", sum := "4ab1fd6d4fb42fb87803d7779ca55fc5253f3a8d6bb86441d35104937ddc3e20", func := "loop.example/g01055/laws.FnExactClosingError", spec := "fnExactClosingError", unfollowed := true, recurses := true, apart := false }
def FnExactClosingErrorSaid : Prop := fnExactClosingErrorRow.holds Try.pinned (OpenSpec.ofChange fnExactClosingErrorSpec)

/-- ITS FALSE NEIGHBOUR: 'it returns false'. Refute it at one input. -/
def fnExactClosingErrorWrong : ChangeSpec := { name := "fnExactClosingError", fn := fun _ => fun
  | [d] => { results := [.lit (.bool false)], args := [d] }
  | _ => none }
def FnExactClosingErrorWrongFalsely : Prop := fnExactClosingErrorRow.holds Try.pinned (OpenSpec.ofChange fnExactClosingErrorWrong)

/-- 'laws.FnExactWorstGap': WHATEVER THE INPUT: true; the input reads as it did. -/
def fnExactWorstGapSpec : ChangeSpec := { name := "fnExactWorstGap", fn := fun _ => fun
  | [d] => { results := [.lit (.bool true)], args := [d] }
  | _ => none }
def fnExactWorstGapRow : OpenClaim := { program := "ytcgcmnebenllcaa", sum := "4ab1fd6d4fb42fb87803d7779ca55fc5253f3a8d6bb86441d35104937ddc3e20", func := "loop.example/g01055/laws.FnExactWorstGap", spec := "fnExactWorstGap", unfollowed := true, recurses := true, apart := false }
def FnExactWorstGapSaid : Prop := fnExactWorstGapRow.holds Try.pinned (OpenSpec.ofChange fnExactWorstGapSpec)

/-- ITS FALSE NEIGHBOUR: 'it returns false'. Refute it at one input. -/
def fnExactWorstGapWrong : ChangeSpec := { name := "fnExactWorstGap", fn := fun _ => fun
  | [d] => { results := [.lit (.bool false)], args := [d] }
  | _ => none }
def FnExactWorstGapWrongFalsely : Prop := fnExactWorstGapRow.holds Try.pinned (OpenSpec.ofChange fnExactWorstGapWrong)

/-- 'laws.FnExactGapsAfter': WHATEVER THE INPUT: true; the input reads as it did. -/
def fnExactGapsAfterSpec : ChangeSpec := { name := "fnExactGapsAfter", fn := fun _ => fun
  | [d1, d2] => { results := [.lit (.bool true)], args := [d1, d2] }
  | _ => none }
def fnExactGapsAfterRow : OpenClaim := { program := "ytcgcmnebenllcaa", sum := "4ab1fd6d4fb42fb87803d7779ca55fc5253f3a8d6bb86441d35104937ddc3e20", func := "loop.example/g01055/laws.FnExactGapsAfter", spec := "fnExactGapsAfter", unfollowed := true, recurses := true, apart := false }
def FnExactGapsAfterSaid : Prop := fnExactGapsAfterRow.holds Try.pinned (OpenSpec.ofChange fnExactGapsAfterSpec)

/-- ITS FALSE NEIGHBOUR: 'it returns false'. Refute it at one input. -/
def fnExactGapsAfterWrong : ChangeSpec := { name := "fnExactGapsAfter", fn := fun _ => fun
  | [d1, d2] => { results := [.lit (.bool false)], args := [d1, d2] }
  | _ => none }
def FnExactGapsAfterWrongFalsely : Prop := fnExactGapsAfterRow.holds Try.pinned (OpenSpec.ofChange fnExactGapsAfterWrong)

/-- 'laws.FnExactSeamsOver': WHATEVER THE INPUT: true; the input reads as it did. -/
def fnExactSeamsOverSpec : ChangeSpec := { name := "fnExactSeamsOver", fn := fun _ => fun
  | [d1, d2] => { results := [.lit (.bool true)], args := [d1, d2] }
  | _ => none }
def fnExactSeamsOverRow : OpenClaim := { program := "ytcgcmnebenllcaa", sum := "4ab1fd6d4fb42fb87803d7779ca55fc5253f3a8d6bb86441d35104937ddc3e20", func := "loop.example/g01055/laws.FnExactSeamsOver", spec := "fnExactSeamsOver", unfollowed := true, recurses := true, apart := false }
def FnExactSeamsOverSaid : Prop := fnExactSeamsOverRow.holds Try.pinned (OpenSpec.ofChange fnExactSeamsOverSpec)

/-- ITS FALSE NEIGHBOUR: 'it returns false'. Refute it at one input. -/
def fnExactSeamsOverWrong : ChangeSpec := { name := "fnExactSeamsOver", fn := fun _ => fun
  | [d1, d2] => { results := [.lit (.bool false)], args := [d1, d2] }
  | _ => none }
def FnExactSeamsOverWrongFalsely : Prop := fnExactSeamsOverRow.holds Try.pinned (OpenSpec.ofChange fnExactSeamsOverWrong)

/-- 'laws.FnExactEvenGaps': WHATEVER THE INPUT: true; the input reads as it did. -/
def fnExactEvenGapsSpec : ChangeSpec := { name := "fnExactEvenGaps", fn := fun _ => fun
  | [d] => { results := [.lit (.bool true)], args := [d] }
  | _ => none }
def fnExactEvenGapsRow : OpenClaim := { program := "ytcgcmnebenllcaa", sum := "4ab1fd6d4fb42fb87803d7779ca55fc5253f3a8d6bb86441d35104937ddc3e20", func := "loop.example/g01055/laws.FnExactEvenGaps", spec := "fnExactEvenGaps", unfollowed := true, recurses := true, apart := false }
def FnExactEvenGapsSaid : Prop := fnExactEvenGapsRow.holds Try.pinned (OpenSpec.ofChange fnExactEvenGapsSpec)

/-- ITS FALSE NEIGHBOUR: 'it returns false'. Refute it at one input. -/
def fnExactEvenGapsWrong : ChangeSpec := { name := "fnExactEvenGaps", fn := fun _ => fun
  | [d] => { results := [.lit (.bool false)], args := [d] }
  | _ => none }
def FnExactEvenGapsWrongFalsely : Prop := fnExactEvenGapsRow.holds Try.pinned (OpenSpec.ofChange fnExactEvenGapsWrong)

/-- 'laws.FnEvenGaps': WHATEVER THE INPUT: true; the input reads as it did. -/
def fnEvenGapsSpec : ChangeSpec := { name := "fnEvenGaps", fn := fun _ => fun
  | [d1, d2] => { results := [.lit (.bool true)], args := [d1, d2] }
  | _ => none }
def fnEvenGapsRow : OpenClaim := { program := "ytcgcmnebenllcaa", sum := "4ab1fd6d4fb42fb87803d7779ca55fc5253f3a8d6bb86441d35104937ddc3e20", func := "loop.example/g01055/laws.FnEvenGaps", spec := "fnEvenGaps", unfollowed := true, recurses := true, apart := false }
def FnEvenGapsSaid : Prop := fnEvenGapsRow.holds Try.pinned (OpenSpec.ofChange fnEvenGapsSpec)

/-- ITS FALSE NEIGHBOUR: 'it returns false'. Refute it at one input. -/
def fnEvenGapsWrong : ChangeSpec := { name := "fnEvenGaps", fn := fun _ => fun
  | [d1, d2] => { results := [.lit (.bool false)], args := [d1, d2] }
  | _ => none }
def FnEvenGapsWrongFalsely : Prop := fnEvenGapsRow.holds Try.pinned (OpenSpec.ofChange fnEvenGapsWrong)

/-- 'laws.FnExactLeastWorst': WHATEVER THE INPUT: true; the input reads as it did. -/
def fnExactLeastWorstSpec : ChangeSpec := { name := "fnExactLeastWorst", fn := fun _ => fun
  | [d1, d2] => { results := [.lit (.bool true)], args := [d1, d2] }
  | _ => none }
def fnExactLeastWorstRow : OpenClaim := { program := "ytcgcmnebenllcaa", sum := "4ab1fd6d4fb42fb87803d7779ca55fc5253f3a8d6bb86441d35104937ddc3e20", func := "loop.example/g01055/laws.FnExactLeastWorst", spec := "fnExactLeastWorst", unfollowed := true, recurses := true, apart := false }
def FnExactLeastWorstSaid : Prop := fnExactLeastWorstRow.holds Try.pinned (OpenSpec.ofChange fnExactLeastWorstSpec)

/-- ITS FALSE NEIGHBOUR: 'it returns false'. Refute it at one input. -/
def fnExactLeastWorstWrong : ChangeSpec := { name := "fnExactLeastWorst", fn := fun _ => fun
  | [d1, d2] => { results := [.lit (.bool false)], args := [d1, d2] }
  | _ => none }
def FnExactLeastWorstWrongFalsely : Prop := fnExactLeastWorstRow.holds Try.pinned (OpenSpec.ofChange fnExactLeastWorstWrong)

/-- 'laws.FnExactBestShifts': WHATEVER THE INPUT: true; the input reads as it did. -/
def fnExactBestShiftsSpec : ChangeSpec := { name := "fnExactBestShifts", fn := fun _ => fun
  | [d1, d2] => { results := [.lit (.bool true)], args := [d1, d2] }
  | _ => none }
def fnExactBestShiftsRow : OpenClaim := { program := "ytcgcmnebenllcaa", sum := "4ab1fd6d4fb42fb87803d7779ca55fc5253f3a8d6bb86441d35104937ddc3e20", func := "loop.example/g01055/laws.FnExactBestShifts", spec := "fnExactBestShifts", unfollowed := true, recurses := true, apart := false }
def FnExactBestShiftsSaid : Prop := fnExactBestShiftsRow.holds Try.pinned (OpenSpec.ofChange fnExactBestShiftsSpec)

/-- ITS FALSE NEIGHBOUR: 'it returns false'. Refute it at one input. -/
def fnExactBestShiftsWrong : ChangeSpec := { name := "fnExactBestShifts", fn := fun _ => fun
  | [d1, d2] => { results := [.lit (.bool false)], args := [d1, d2] }
  | _ => none }
def FnExactBestShiftsWrongFalsely : Prop := fnExactBestShiftsRow.holds Try.pinned (OpenSpec.ofChange fnExactBestShiftsWrong)

/- THE SECOND FORM. 'bulk': how many values and letters a reading holds, each counted each time it is reached (what is shared counts as often as it is met; a slice's spare places count too). A statement '..UptoSaid' is the law's where the arguments, and the package variables that the reading takes, are together of bulk at most 1048576: NARROWER than '..Said'. Prove '..Said' where nothing that the law and all that it calls make is longer than what came in: it says more and counts as full. Else prove '..UptoSaid'. A law counts once. -/
mutual
def uptoBulk {H : Type} : DataW H → Nat
  | .lit (.string bytes) => bytes.length + 1
  | .lit _ => 1
  | .nil => 1
  | .ptr d => uptoBulk d + 1
  | .slice elems spare => uptoBulkAll elems + uptoBulkAll spare + 1
  | .agg parts => uptoBulkAll parts + 1
  | .iface _ d => uptoBulk d + 1
  | .map entries => uptoBulkEntries entries + 1
  | .held _ => 1
def uptoBulkAll {H : Type} : List (DataW H) → Nat
  | [] => 0
  | d :: r => uptoBulk d + uptoBulkAll r
def uptoBulkEntries {H : Type} : List (Lit × DataW H) → Nat
  | [] => 0
  | x :: r => uptoBulkEntry x + uptoBulkEntries r
def uptoBulkEntry {H : Type} : Lit × DataW H → Nat
  | (.string bytes, d) => bytes.length + uptoBulk d + 1
  | (_, d) => uptoBulk d + 1
 end
def uptoSmall : (H : Type) → List (DataW H) → Bool := fun _ ds => decide (uptoBulkAll ds ≤ 1048576)
def OpenSpec.upto (s : _root_.Go.ChangeSpec) : _root_.Go.OpenSpec := { _root_.Go.OpenSpec.ofChange s with cond := some uptoSmall }

/-- 'laws.FnExactValidSeams', WHERE WHAT IT READS IS OF BULK AT MOST 1048576: true; the input reads as it did. -/
def fnExactValidSeamsUptoRow : OpenClaim := { program := "ytcgcmnebenllcaa", sum := "4ab1fd6d4fb42fb87803d7779ca55fc5253f3a8d6bb86441d35104937ddc3e20", func := "loop.example/g01055/laws.FnExactValidSeams", spec := "fnExactValidSeams", unfollowed := true, recurses := true, apart := false, narrowed := true }
def FnExactValidSeamsUptoSaid : Prop := fnExactValidSeamsUptoRow.holds Try.pinned (OpenSpec.upto fnExactValidSeamsSpec)

/-- 'laws.FnExactClosingBounds', WHERE WHAT IT READS IS OF BULK AT MOST 1048576: true; the input reads as it did. -/
def fnExactClosingBoundsUptoRow : OpenClaim := { program := "ytcgcmnebenllcaa", sum := "4ab1fd6d4fb42fb87803d7779ca55fc5253f3a8d6bb86441d35104937ddc3e20", func := "loop.example/g01055/laws.FnExactClosingBounds", spec := "fnExactClosingBounds", unfollowed := true, recurses := true, apart := false, narrowed := true }
def FnExactClosingBoundsUptoSaid : Prop := fnExactClosingBoundsUptoRow.holds Try.pinned (OpenSpec.upto fnExactClosingBoundsSpec)

/-- 'laws.FnSeams', WHERE WHAT IT READS IS OF BULK AT MOST 1048576: true; the input reads as it did. -/
def fnSeamsUptoRow : OpenClaim := { program := "ytcgcmnebenllcaa", sum := "4ab1fd6d4fb42fb87803d7779ca55fc5253f3a8d6bb86441d35104937ddc3e20", func := "loop.example/g01055/laws.FnSeams", spec := "fnSeams", unfollowed := true, recurses := true, apart := false, narrowed := true }
def FnSeamsUptoSaid : Prop := fnSeamsUptoRow.holds Try.pinned (OpenSpec.upto fnSeamsSpec)

/-- 'laws.FnExactClosingError', WHERE WHAT IT READS IS OF BULK AT MOST 1048576: true; the input reads as it did. -/
def fnExactClosingErrorUptoRow : OpenClaim := { program := "ytcgcmnebenllcaa", sum := "4ab1fd6d4fb42fb87803d7779ca55fc5253f3a8d6bb86441d35104937ddc3e20", func := "loop.example/g01055/laws.FnExactClosingError", spec := "fnExactClosingError", unfollowed := true, recurses := true, apart := false, narrowed := true }
def FnExactClosingErrorUptoSaid : Prop := fnExactClosingErrorUptoRow.holds Try.pinned (OpenSpec.upto fnExactClosingErrorSpec)

/-- 'laws.FnExactWorstGap', WHERE WHAT IT READS IS OF BULK AT MOST 1048576: true; the input reads as it did. -/
def fnExactWorstGapUptoRow : OpenClaim := { program := "ytcgcmnebenllcaa", sum := "4ab1fd6d4fb42fb87803d7779ca55fc5253f3a8d6bb86441d35104937ddc3e20", func := "loop.example/g01055/laws.FnExactWorstGap", spec := "fnExactWorstGap", unfollowed := true, recurses := true, apart := false, narrowed := true }
def FnExactWorstGapUptoSaid : Prop := fnExactWorstGapUptoRow.holds Try.pinned (OpenSpec.upto fnExactWorstGapSpec)

/-- 'laws.FnExactGapsAfter', WHERE WHAT IT READS IS OF BULK AT MOST 1048576: true; the input reads as it did. -/
def fnExactGapsAfterUptoRow : OpenClaim := { program := "ytcgcmnebenllcaa", sum := "4ab1fd6d4fb42fb87803d7779ca55fc5253f3a8d6bb86441d35104937ddc3e20", func := "loop.example/g01055/laws.FnExactGapsAfter", spec := "fnExactGapsAfter", unfollowed := true, recurses := true, apart := false, narrowed := true }
def FnExactGapsAfterUptoSaid : Prop := fnExactGapsAfterUptoRow.holds Try.pinned (OpenSpec.upto fnExactGapsAfterSpec)

/-- 'laws.FnExactSeamsOver', WHERE WHAT IT READS IS OF BULK AT MOST 1048576: true; the input reads as it did. -/
def fnExactSeamsOverUptoRow : OpenClaim := { program := "ytcgcmnebenllcaa", sum := "4ab1fd6d4fb42fb87803d7779ca55fc5253f3a8d6bb86441d35104937ddc3e20", func := "loop.example/g01055/laws.FnExactSeamsOver", spec := "fnExactSeamsOver", unfollowed := true, recurses := true, apart := false, narrowed := true }
def FnExactSeamsOverUptoSaid : Prop := fnExactSeamsOverUptoRow.holds Try.pinned (OpenSpec.upto fnExactSeamsOverSpec)

/-- 'laws.FnExactEvenGaps', WHERE WHAT IT READS IS OF BULK AT MOST 1048576: true; the input reads as it did. -/
def fnExactEvenGapsUptoRow : OpenClaim := { program := "ytcgcmnebenllcaa", sum := "4ab1fd6d4fb42fb87803d7779ca55fc5253f3a8d6bb86441d35104937ddc3e20", func := "loop.example/g01055/laws.FnExactEvenGaps", spec := "fnExactEvenGaps", unfollowed := true, recurses := true, apart := false, narrowed := true }
def FnExactEvenGapsUptoSaid : Prop := fnExactEvenGapsUptoRow.holds Try.pinned (OpenSpec.upto fnExactEvenGapsSpec)

/-- 'laws.FnEvenGaps', WHERE WHAT IT READS IS OF BULK AT MOST 1048576: true; the input reads as it did. -/
def fnEvenGapsUptoRow : OpenClaim := { program := "ytcgcmnebenllcaa", sum := "4ab1fd6d4fb42fb87803d7779ca55fc5253f3a8d6bb86441d35104937ddc3e20", func := "loop.example/g01055/laws.FnEvenGaps", spec := "fnEvenGaps", unfollowed := true, recurses := true, apart := false, narrowed := true }
def FnEvenGapsUptoSaid : Prop := fnEvenGapsUptoRow.holds Try.pinned (OpenSpec.upto fnEvenGapsSpec)

/-- 'laws.FnExactLeastWorst', WHERE WHAT IT READS IS OF BULK AT MOST 1048576: true; the input reads as it did. -/
def fnExactLeastWorstUptoRow : OpenClaim := { program := "ytcgcmnebenllcaa", sum := "4ab1fd6d4fb42fb87803d7779ca55fc5253f3a8d6bb86441d35104937ddc3e20", func := "loop.example/g01055/laws.FnExactLeastWorst", spec := "fnExactLeastWorst", unfollowed := true, recurses := true, apart := false, narrowed := true }
def FnExactLeastWorstUptoSaid : Prop := fnExactLeastWorstUptoRow.holds Try.pinned (OpenSpec.upto fnExactLeastWorstSpec)

/-- 'laws.FnExactBestShifts', WHERE WHAT IT READS IS OF BULK AT MOST 1048576: true; the input reads as it did. -/
def fnExactBestShiftsUptoRow : OpenClaim := { program := "ytcgcmnebenllcaa", sum := "4ab1fd6d4fb42fb87803d7779ca55fc5253f3a8d6bb86441d35104937ddc3e20", func := "loop.example/g01055/laws.FnExactBestShifts", spec := "fnExactBestShifts", unfollowed := true, recurses := true, apart := false, narrowed := true }
def FnExactBestShiftsUptoSaid : Prop := fnExactBestShiftsUptoRow.holds Try.pinned (OpenSpec.upto fnExactBestShiftsSpec)

end Rows
end Go.Proofs.Ytcgcmnebenllcaa
