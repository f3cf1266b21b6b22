/-
  No cell of these rows narrows 'for every input' (looked for: loops, veiled, ifaces, maps, wideKeys, modest, calm, conditions, laid).
  DERIVED. THE GIVEN ROWS OF THIS SEAT. 12 by the template 'for every input the law returns true; each argument reads behind the call as it read before'; 0 by the template 'total and deterministic' (their statements: YtncejfhmachapaaTotals.lean).
  GIVEN WITH THE SEED: the statements are not yours to turn. If you find one false, say at which input.
  Laid BY PROGRAM, IN A SANDBOX (cutbox-rows.mjs): the forced cells as the released guide's own fill.sh prints them over the translation 48d6d5ee7b10542d… (all of the seat's roots in one cut). By AI agents, Wed Nov 11 2026. No macro, syntax, notation, axiom, sorry.
-/
import Derived.Test.YtncejfhmachapaaChecked
import GoSem.Claim
import GoSem.ClaimJoined
import GoSem.ClaimMapViews
import Derived.JoinedTies
import Derived.KernelRfl
namespace Go.Proofs.Ytncejfhmachapaa
/- THE CELL 'sum', in the pinned program and in every row, IS THE sha256 OF THE DUMP (.gsa) THAT YtncejfhmachapaaProg.lean LOADS. Nothing in Lean hashes anything: it is a label: what it is worth is what the hold of that sum in a sandbox is worth. -/
noncomputable def Try.pinned : Pinned := { name := "ytncejfhmachapaa", sum := "48d6d5ee7b10542dd655e4e6979d085c7e0545307d37c64bdc51cb8551c7b986", checked := Try.checked }
namespace Rows
def none {H : Type} : Left H := { results := [], args := [] }

/-- 'laws.FnExactSunOn': WHATEVER THE INPUT: true; the input reads as it did. -/
def fnExactSunOnSpec : ChangeSpec := { name := "fnExactSunOn", fn := fun _ => fun
  | [d1, d2] => { results := [.lit (.bool true)], args := [d1, d2] }
  | _ => none }
def fnExactSunOnRow : OpenClaim := { program := "ytncejfhmachapaa", sum := "48d6d5ee7b10542dd655e4e6979d085c7e0545307d37c64bdc51cb8551c7b986", func := "loop.example/g01055/laws.FnExactSunOn", spec := "fnExactSunOn", apart := false }
def FnExactSunOnSaid : Prop := fnExactSunOnRow.holds Try.pinned (OpenSpec.ofChange fnExactSunOnSpec)

/-- ITS FALSE NEIGHBOUR: 'it returns false'. Refute it at one input. -/
def fnExactSunOnWrong : ChangeSpec := { name := "fnExactSunOn", fn := fun _ => fun
  | [d1, d2] => { results := [.lit (.bool false)], args := [d1, d2] }
  | _ => none }
def FnExactSunOnWrongFalsely : Prop := fnExactSunOnRow.holds Try.pinned (OpenSpec.ofChange fnExactSunOnWrong)

/-- 'laws.FnExactDayOfSun': WHATEVER THE INPUT: true; the input reads as it did. -/
def fnExactDayOfSunSpec : ChangeSpec := { name := "fnExactDayOfSun", fn := fun _ => fun
  | [d1, d2] => { results := [.lit (.bool true)], args := [d1, d2] }
  | _ => none }
def fnExactDayOfSunRow : OpenClaim := { program := "ytncejfhmachapaa", sum := "48d6d5ee7b10542dd655e4e6979d085c7e0545307d37c64bdc51cb8551c7b986", func := "loop.example/g01055/laws.FnExactDayOfSun", spec := "fnExactDayOfSun", apart := false }
def FnExactDayOfSunSaid : Prop := fnExactDayOfSunRow.holds Try.pinned (OpenSpec.ofChange fnExactDayOfSunSpec)

/-- ITS FALSE NEIGHBOUR: 'it returns false'. Refute it at one input. -/
def fnExactDayOfSunWrong : ChangeSpec := { name := "fnExactDayOfSun", fn := fun _ => fun
  | [d1, d2] => { results := [.lit (.bool false)], args := [d1, d2] }
  | _ => none }
def FnExactDayOfSunWrongFalsely : Prop := fnExactDayOfSunRow.holds Try.pinned (OpenSpec.ofChange fnExactDayOfSunWrong)

/-- 'laws.FnExactSignOf': WHATEVER THE INPUT: true; the input reads as it did. -/
def fnExactSignOfSpec : ChangeSpec := { name := "fnExactSignOf", fn := fun _ => fun
  | [d1, d2] => { results := [.lit (.bool true)], args := [d1, d2] }
  | _ => none }
def fnExactSignOfRow : OpenClaim := { program := "ytncejfhmachapaa", sum := "48d6d5ee7b10542dd655e4e6979d085c7e0545307d37c64bdc51cb8551c7b986", func := "loop.example/g01055/laws.FnExactSignOf", spec := "fnExactSignOf", apart := false }
def FnExactSignOfSaid : Prop := fnExactSignOfRow.holds Try.pinned (OpenSpec.ofChange fnExactSignOfSpec)

/-- ITS FALSE NEIGHBOUR: 'it returns false'. Refute it at one input. -/
def fnExactSignOfWrong : ChangeSpec := { name := "fnExactSignOf", fn := fun _ => fun
  | [d1, d2] => { results := [.lit (.bool false)], args := [d1, d2] }
  | _ => none }
def FnExactSignOfWrongFalsely : Prop := fnExactSignOfRow.holds Try.pinned (OpenSpec.ofChange fnExactSignOfWrong)

/-- 'laws.FnExactRingError': WHATEVER THE INPUT: true; the input reads as it did. -/
def fnExactRingErrorSpec : ChangeSpec := { name := "fnExactRingError", fn := fun _ => fun
  | [d] => { results := [.lit (.bool true)], args := [d] }
  | _ => none }
def fnExactRingErrorRow : OpenClaim := { program := "ytncejfhmachapaa", sum := "48d6d5ee7b10542dd655e4e6979d085c7e0545307d37c64bdc51cb8551c7b986", func := "loop.example/g01055/laws.FnExactRingError", spec := "fnExactRingError", apart := false }
def FnExactRingErrorSaid : Prop := fnExactRingErrorRow.holds Try.pinned (OpenSpec.ofChange fnExactRingErrorSpec)

/-- ITS FALSE NEIGHBOUR: 'it returns false'. Refute it at one input. -/
def fnExactRingErrorWrong : ChangeSpec := { name := "fnExactRingError", fn := fun _ => fun
  | [d] => { results := [.lit (.bool false)], args := [d] }
  | _ => none }
def FnExactRingErrorWrongFalsely : Prop := fnExactRingErrorRow.holds Try.pinned (OpenSpec.ofChange fnExactRingErrorWrong)

/-- 'laws.FnExactNearestDivision': WHATEVER THE INPUT: true; the input reads as it did. -/
def fnExactNearestDivisionSpec : ChangeSpec := { name := "fnExactNearestDivision", fn := fun _ => fun
  | [d1, d2] => { results := [.lit (.bool true)], args := [d1, d2] }
  | _ => none }
def fnExactNearestDivisionRow : OpenClaim := { program := "ytncejfhmachapaa", sum := "48d6d5ee7b10542dd655e4e6979d085c7e0545307d37c64bdc51cb8551c7b986", func := "loop.example/g01055/laws.FnExactNearestDivision", spec := "fnExactNearestDivision", apart := false }
def FnExactNearestDivisionSaid : Prop := fnExactNearestDivisionRow.holds Try.pinned (OpenSpec.ofChange fnExactNearestDivisionSpec)

/-- ITS FALSE NEIGHBOUR: 'it returns false'. Refute it at one input. -/
def fnExactNearestDivisionWrong : ChangeSpec := { name := "fnExactNearestDivision", fn := fun _ => fun
  | [d1, d2] => { results := [.lit (.bool false)], args := [d1, d2] }
  | _ => none }
def FnExactNearestDivisionWrongFalsely : Prop := fnExactNearestDivisionRow.holds Try.pinned (OpenSpec.ofChange fnExactNearestDivisionWrong)

/-- 'laws.FnExactDivisionsOf': WHATEVER THE INPUT: true; the input reads as it did. -/
def fnExactDivisionsOfSpec : ChangeSpec := { name := "fnExactDivisionsOf", fn := fun _ => fun
  | [d] => { results := [.lit (.bool true)], args := [d] }
  | _ => none }
def fnExactDivisionsOfRow : OpenClaim := { program := "ytncejfhmachapaa", sum := "48d6d5ee7b10542dd655e4e6979d085c7e0545307d37c64bdc51cb8551c7b986", func := "loop.example/g01055/laws.FnExactDivisionsOf", spec := "fnExactDivisionsOf", apart := false }
def FnExactDivisionsOfSaid : Prop := fnExactDivisionsOfRow.holds Try.pinned (OpenSpec.ofChange fnExactDivisionsOfSpec)

/-- ITS FALSE NEIGHBOUR: 'it returns false'. Refute it at one input. -/
def fnExactDivisionsOfWrong : ChangeSpec := { name := "fnExactDivisionsOf", fn := fun _ => fun
  | [d] => { results := [.lit (.bool false)], args := [d] }
  | _ => none }
def FnExactDivisionsOfWrongFalsely : Prop := fnExactDivisionsOfRow.holds Try.pinned (OpenSpec.ofChange fnExactDivisionsOfWrong)

/-- 'laws.FnCalendars': WHATEVER THE INPUT: true; the input reads as it did. -/
def fnCalendarsSpec : ChangeSpec := { name := "fnCalendars", fn := fun _ => fun
  | [d] => { results := [.lit (.bool true)], args := [d] }
  | _ => none }
def fnCalendarsRow : OpenClaim := { program := "ytncejfhmachapaa", sum := "48d6d5ee7b10542dd655e4e6979d085c7e0545307d37c64bdc51cb8551c7b986", func := "loop.example/g01055/laws.FnCalendars", spec := "fnCalendars", apart := false }
def FnCalendarsSaid : Prop := fnCalendarsRow.holds Try.pinned (OpenSpec.ofChange fnCalendarsSpec)

/-- ITS FALSE NEIGHBOUR: 'it returns false'. Refute it at one input. -/
def fnCalendarsWrong : ChangeSpec := { name := "fnCalendars", fn := fun _ => fun
  | [d] => { results := [.lit (.bool false)], args := [d] }
  | _ => none }
def FnCalendarsWrongFalsely : Prop := fnCalendarsRow.holds Try.pinned (OpenSpec.ofChange fnCalendarsWrong)

/-- 'laws.FnExactValidLoads': WHATEVER THE INPUT: true; the input reads as it did. -/
def fnExactValidLoadsSpec : ChangeSpec := { name := "fnExactValidLoads", fn := fun _ => fun
  | [d] => { results := [.lit (.bool true)], args := [d] }
  | _ => none }
def fnExactValidLoadsRow : OpenClaim := { program := "ytncejfhmachapaa", sum := "48d6d5ee7b10542dd655e4e6979d085c7e0545307d37c64bdc51cb8551c7b986", func := "loop.example/g01055/laws.FnExactValidLoads", spec := "fnExactValidLoads", unfollowed := true, recurses := true, apart := false }
def FnExactValidLoadsSaid : Prop := fnExactValidLoadsRow.holds Try.pinned (OpenSpec.ofChange fnExactValidLoadsSpec)

/-- ITS FALSE NEIGHBOUR: 'it returns false'. Refute it at one input. -/
def fnExactValidLoadsWrong : ChangeSpec := { name := "fnExactValidLoads", fn := fun _ => fun
  | [d] => { results := [.lit (.bool false)], args := [d] }
  | _ => none }
def FnExactValidLoadsWrongFalsely : Prop := fnExactValidLoadsRow.holds Try.pinned (OpenSpec.ofChange fnExactValidLoadsWrong)

/-- 'laws.FnExactMomentOf': WHATEVER THE INPUT: true; the input reads as it did. -/
def fnExactMomentOfSpec : ChangeSpec := { name := "fnExactMomentOf", fn := fun _ => fun
  | [d] => { results := [.lit (.bool true)], args := [d] }
  | _ => none }
def fnExactMomentOfRow : OpenClaim := { program := "ytncejfhmachapaa", sum := "48d6d5ee7b10542dd655e4e6979d085c7e0545307d37c64bdc51cb8551c7b986", func := "loop.example/g01055/laws.FnExactMomentOf", spec := "fnExactMomentOf", unfollowed := true, recurses := true, apart := false }
def FnExactMomentOfSaid : Prop := fnExactMomentOfRow.holds Try.pinned (OpenSpec.ofChange fnExactMomentOfSpec)

/-- ITS FALSE NEIGHBOUR: 'it returns false'. Refute it at one input. -/
def fnExactMomentOfWrong : ChangeSpec := { name := "fnExactMomentOf", fn := fun _ => fun
  | [d] => { results := [.lit (.bool false)], args := [d] }
  | _ => none }
def FnExactMomentOfWrongFalsely : Prop := fnExactMomentOfRow.holds Try.pinned (OpenSpec.ofChange fnExactMomentOfWrong)

/-- 'laws.FnExactIsEven': WHATEVER THE INPUT: true; the input reads as it did. -/
def fnExactIsEvenSpec : ChangeSpec := { name := "fnExactIsEven", fn := fun _ => fun
  | [d1, d2] => { results := [.lit (.bool true)], args := [d1, d2] }
  | _ => none }
def fnExactIsEvenRow : OpenClaim := { program := "ytncejfhmachapaa", sum := "48d6d5ee7b10542dd655e4e6979d085c7e0545307d37c64bdc51cb8551c7b986", func := "loop.example/g01055/laws.FnExactIsEven", spec := "fnExactIsEven", unfollowed := true, recurses := true, apart := false }
def FnExactIsEvenSaid : Prop := fnExactIsEvenRow.holds Try.pinned (OpenSpec.ofChange fnExactIsEvenSpec)

/-- ITS FALSE NEIGHBOUR: 'it returns false'. Refute it at one input. -/
def fnExactIsEvenWrong : ChangeSpec := { name := "fnExactIsEven", fn := fun _ => fun
  | [d1, d2] => { results := [.lit (.bool false)], args := [d1, d2] }
  | _ => none }
def FnExactIsEvenWrongFalsely : Prop := fnExactIsEvenRow.holds Try.pinned (OpenSpec.ofChange fnExactIsEvenWrong)

/-- 'laws.FnExactCounterLoad': WHATEVER THE INPUT: true; the input reads as it did. -/
def fnExactCounterLoadSpec : ChangeSpec := { name := "fnExactCounterLoad", fn := fun _ => fun
  | [d1, d2] => { results := [.lit (.bool true)], args := [d1, d2] }
  | _ => none }
def fnExactCounterLoadRow : OpenClaim := { program := "ytncejfhmachapaa", sum := "48d6d5ee7b10542dd655e4e6979d085c7e0545307d37c64bdc51cb8551c7b986", func := "loop.example/g01055/laws.FnExactCounterLoad", spec := "fnExactCounterLoad", unfollowed := true, recurses := true, apart := false }
def FnExactCounterLoadSaid : Prop := fnExactCounterLoadRow.holds Try.pinned (OpenSpec.ofChange fnExactCounterLoadSpec)

/-- ITS FALSE NEIGHBOUR: 'it returns false'. Refute it at one input. -/
def fnExactCounterLoadWrong : ChangeSpec := { name := "fnExactCounterLoad", fn := fun _ => fun
  | [d1, d2] => { results := [.lit (.bool false)], args := [d1, d2] }
  | _ => none }
def FnExactCounterLoadWrongFalsely : Prop := fnExactCounterLoadRow.holds Try.pinned (OpenSpec.ofChange fnExactCounterLoadWrong)

/-- 'laws.FnBalanceOf': WHATEVER THE INPUT: true; the input reads as it did. -/
def fnBalanceOfSpec : ChangeSpec := { name := "fnBalanceOf", fn := fun _ => fun
  | [d] => { results := [.lit (.bool true)], args := [d] }
  | _ => none }
def fnBalanceOfRow : OpenClaim := { program := "ytncejfhmachapaa", sum := "48d6d5ee7b10542dd655e4e6979d085c7e0545307d37c64bdc51cb8551c7b986", func := "loop.example/g01055/laws.FnBalanceOf", spec := "fnBalanceOf", unfollowed := true, recurses := true, apart := false }
def FnBalanceOfSaid : Prop := fnBalanceOfRow.holds Try.pinned (OpenSpec.ofChange fnBalanceOfSpec)

/-- ITS FALSE NEIGHBOUR: 'it returns false'. Refute it at one input. -/
def fnBalanceOfWrong : ChangeSpec := { name := "fnBalanceOf", fn := fun _ => fun
  | [d] => { results := [.lit (.bool false)], args := [d] }
  | _ => none }
def FnBalanceOfWrongFalsely : Prop := fnBalanceOfRow.holds Try.pinned (OpenSpec.ofChange fnBalanceOfWrong)

/- THE SECOND FORM. 'bulk': how many values and letters a reading holds, each counted each time it is reached (what is shared counts as often as it is met; a slice's spare places count too). A statement '..UptoSaid' is the law's where the arguments, and the package variables that the reading takes, are together of bulk at most 1048576: NARROWER than '..Said'. Prove '..Said' where nothing that the law and all that it calls make is longer than what came in: it says more and counts as full. Else prove '..UptoSaid'. A law counts once. -/
mutual
def uptoBulk {H : Type} : DataW H → Nat
  | .lit (.string bytes) => bytes.length + 1
  | .lit _ => 1
  | .nil => 1
  | .ptr d => uptoBulk d + 1
  | .slice elems spare => uptoBulkAll elems + uptoBulkAll spare + 1
  | .agg parts => uptoBulkAll parts + 1
  | .iface _ d => uptoBulk d + 1
  | .map entries => uptoBulkEntries entries + 1
  | .held _ => 1
def uptoBulkAll {H : Type} : List (DataW H) → Nat
  | [] => 0
  | d :: r => uptoBulk d + uptoBulkAll r
def uptoBulkEntries {H : Type} : List (Lit × DataW H) → Nat
  | [] => 0
  | x :: r => uptoBulkEntry x + uptoBulkEntries r
def uptoBulkEntry {H : Type} : Lit × DataW H → Nat
  | (.string bytes, d) => bytes.length + uptoBulk d + 1
  | (_, d) => uptoBulk d + 1
 end
def uptoSmall : (H : Type) → List (DataW H) → Bool := fun _ ds => decide (uptoBulkAll ds ≤ 1048576)
def OpenSpec.upto (s : _root_.Go.ChangeSpec) : _root_.Go.OpenSpec := { _root_.Go.OpenSpec.ofChange s with cond := some uptoSmall }

/-- 'laws.FnExactSunOn', WHERE WHAT IT READS IS OF BULK AT MOST 1048576: true; the input reads as it did. -/
def fnExactSunOnUptoRow : OpenClaim := { program := "ytncejfhmachapaa", sum := "48d6d5ee7b10542dd655e4e6979d085c7e0545307d37c64bdc51cb8551c7b986", func := "loop.example/g01055/laws.FnExactSunOn", spec := "fnExactSunOn", apart := false, narrowed := true }
def FnExactSunOnUptoSaid : Prop := fnExactSunOnUptoRow.holds Try.pinned (OpenSpec.upto fnExactSunOnSpec)

/-- 'laws.FnExactDayOfSun', WHERE WHAT IT READS IS OF BULK AT MOST 1048576: true; the input reads as it did. -/
def fnExactDayOfSunUptoRow : OpenClaim := { program := "ytncejfhmachapaa", sum := "48d6d5ee7b10542dd655e4e6979d085c7e0545307d37c64bdc51cb8551c7b986", func := "loop.example/g01055/laws.FnExactDayOfSun", spec := "fnExactDayOfSun", apart := false, narrowed := true }
def FnExactDayOfSunUptoSaid : Prop := fnExactDayOfSunUptoRow.holds Try.pinned (OpenSpec.upto fnExactDayOfSunSpec)

/-- 'laws.FnExactSignOf', WHERE WHAT IT READS IS OF BULK AT MOST 1048576: true; the input reads as it did. -/
def fnExactSignOfUptoRow : OpenClaim := { program := "ytncejfhmachapaa", sum := "48d6d5ee7b10542dd655e4e6979d085c7e0545307d37c64bdc51cb8551c7b986", func := "loop.example/g01055/laws.FnExactSignOf", spec := "fnExactSignOf", apart := false, narrowed := true }
def FnExactSignOfUptoSaid : Prop := fnExactSignOfUptoRow.holds Try.pinned (OpenSpec.upto fnExactSignOfSpec)

/-- 'laws.FnExactRingError', WHERE WHAT IT READS IS OF BULK AT MOST 1048576: true; the input reads as it did. -/
def fnExactRingErrorUptoRow : OpenClaim := { program := "ytncejfhmachapaa", sum := "48d6d5ee7b10542dd655e4e6979d085c7e0545307d37c64bdc51cb8551c7b986", func := "loop.example/g01055/laws.FnExactRingError", spec := "fnExactRingError", apart := false, narrowed := true }
def FnExactRingErrorUptoSaid : Prop := fnExactRingErrorUptoRow.holds Try.pinned (OpenSpec.upto fnExactRingErrorSpec)

/-- 'laws.FnExactNearestDivision', WHERE WHAT IT READS IS OF BULK AT MOST 1048576: true; the input reads as it did. -/
def fnExactNearestDivisionUptoRow : OpenClaim := { program := "ytncejfhmachapaa", sum := "48d6d5ee7b10542dd655e4e6979d085c7e0545307d37c64bdc51cb8551c7b986", func := "loop.example/g01055/laws.FnExactNearestDivision", spec := "fnExactNearestDivision", apart := false, narrowed := true }
def FnExactNearestDivisionUptoSaid : Prop := fnExactNearestDivisionUptoRow.holds Try.pinned (OpenSpec.upto fnExactNearestDivisionSpec)

/-- 'laws.FnExactDivisionsOf', WHERE WHAT IT READS IS OF BULK AT MOST 1048576: true; the input reads as it did. -/
def fnExactDivisionsOfUptoRow : OpenClaim := { program := "ytncejfhmachapaa", sum := "48d6d5ee7b10542dd655e4e6979d085c7e0545307d37c64bdc51cb8551c7b986", func := "loop.example/g01055/laws.FnExactDivisionsOf", spec := "fnExactDivisionsOf", apart := false, narrowed := true }
def FnExactDivisionsOfUptoSaid : Prop := fnExactDivisionsOfUptoRow.holds Try.pinned (OpenSpec.upto fnExactDivisionsOfSpec)

/-- 'laws.FnCalendars', WHERE WHAT IT READS IS OF BULK AT MOST 1048576: true; the input reads as it did. -/
def fnCalendarsUptoRow : OpenClaim := { program := "ytncejfhmachapaa", sum := "48d6d5ee7b10542dd655e4e6979d085c7e0545307d37c64bdc51cb8551c7b986", func := "loop.example/g01055/laws.FnCalendars", spec := "fnCalendars", apart := false, narrowed := true }
def FnCalendarsUptoSaid : Prop := fnCalendarsUptoRow.holds Try.pinned (OpenSpec.upto fnCalendarsSpec)

/-- 'laws.FnExactValidLoads', WHERE WHAT IT READS IS OF BULK AT MOST 1048576: true; the input reads as it did. -/
def fnExactValidLoadsUptoRow : OpenClaim := { program := "ytncejfhmachapaa", sum := "48d6d5ee7b10542dd655e4e6979d085c7e0545307d37c64bdc51cb8551c7b986", func := "loop.example/g01055/laws.FnExactValidLoads", spec := "fnExactValidLoads", unfollowed := true, recurses := true, apart := false, narrowed := true }
def FnExactValidLoadsUptoSaid : Prop := fnExactValidLoadsUptoRow.holds Try.pinned (OpenSpec.upto fnExactValidLoadsSpec)

/-- 'laws.FnExactMomentOf', WHERE WHAT IT READS IS OF BULK AT MOST 1048576: true; the input reads as it did. -/
def fnExactMomentOfUptoRow : OpenClaim := { program := "ytncejfhmachapaa", sum := "48d6d5ee7b10542dd655e4e6979d085c7e0545307d37c64bdc51cb8551c7b986", func := "loop.example/g01055/laws.FnExactMomentOf", spec := "fnExactMomentOf", unfollowed := true, recurses := true, apart := false, narrowed := true }
def FnExactMomentOfUptoSaid : Prop := fnExactMomentOfUptoRow.holds Try.pinned (OpenSpec.upto fnExactMomentOfSpec)

/-- 'laws.FnExactIsEven', WHERE WHAT IT READS IS OF BULK AT MOST 1048576: true; the input reads as it did. -/
def fnExactIsEvenUptoRow : OpenClaim := { program := "ytncejfhmachapaa", sum := "48d6d5ee7b10542dd655e4e6979d085c7e0545307d37c64bdc51cb8551c7b986", func := "loop.example/g01055/laws.FnExactIsEven", spec := "fnExactIsEven", unfollowed := true, recurses := true, apart := false, narrowed := true }
def FnExactIsEvenUptoSaid : Prop := fnExactIsEvenUptoRow.holds Try.pinned (OpenSpec.upto fnExactIsEvenSpec)

/-- 'laws.FnExactCounterLoad', WHERE WHAT IT READS IS OF BULK AT MOST 1048576: true; the input reads as it did. -/
def fnExactCounterLoadUptoRow : OpenClaim := { program := "ytncejfhmachapaa", sum := "48d6d5ee7b10542dd655e4e6979d085c7e0545307d37c64bdc51cb8551c7b986", func := "loop.example/g01055/laws.FnExactCounterLoad", spec := "fnExactCounterLoad", unfollowed := true, recurses := true, apart := false, narrowed := true }
def FnExactCounterLoadUptoSaid : Prop := fnExactCounterLoadUptoRow.holds Try.pinned (OpenSpec.upto fnExactCounterLoadSpec)

/-- 'laws.FnBalanceOf', WHERE WHAT IT READS IS OF BULK AT MOST 1048576: true; the input reads as it did. -/
def fnBalanceOfUptoRow : OpenClaim := { program := "ytncejfhmachapaa", sum := "48d6d5ee7b10542dd655e4e6979d085c7e0545307d37c64bdc51cb8551c7b986", func := "loop.example/g01055/laws.FnBalanceOf", spec := "fnBalanceOf", unfollowed := true, recurses := true, apart := false, narrowed := true }
def FnBalanceOfUptoSaid : Prop := fnBalanceOfUptoRow.holds Try.pinned (OpenSpec.upto fnBalanceOfSpec)

end Rows
end Go.Proofs.Ytncejfhmachapaa
