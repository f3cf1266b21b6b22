/-
  No cell of these rows narrows 'for every input' (looked for: loops, veiled, ifaces, maps, wideKeys, modest, calm, conditions, laid).
  DERIVED. THE GIVEN ROWS OF THIS SEAT. 12 by the template 'for every input the law returns true; each argument reads behind the call as it read before'; 0 by the template 'total and deterministic' (their statements: YtibbbeidbapfeaaTotals.lean).
  GIVEN WITH THE SEED: the statements are not yours to turn. If you find one false, say at which input.
  Laid BY PROGRAM, IN A SANDBOX (cutbox-rows.mjs): the forced cells as the released guide's own fill.sh prints them over the translation e37c7321494f621f… (all of the seat's roots in one cut). By AI agents, Wed Nov 11 2026. No macro, syntax, notation, axiom, sorry.
-/
import Derived.Test.YtibbbeidbapfeaaChecked
import GoSem.Claim
import GoSem.ClaimJoined
import GoSem.ClaimMapViews
import Derived.JoinedTies
import Derived.KernelRfl
namespace Go.Proofs.Ytibbbeidbapfeaa
/- THE CELL 'sum', in the pinned program and in every row, IS THE sha256 OF THE DUMP (.gsa) THAT YtibbbeidbapfeaaProg.lean LOADS. Nothing in Lean hashes anything: it is a label: what it is worth is what the hold of that sum in a sandbox is worth. -/
noncomputable def Try.pinned : Pinned := { name := "ytibbbeidbapfeaa", sum := "e37c7321494f621fda438f4ad9446f74971a3418df5e3ee7b24217c4959188f1", checked := Try.checked }
namespace Rows
def none {H : Type} : Left H := { results := [], args := [] }

/-- 'laws.FnExactNoonHeight': WHATEVER THE INPUT: true; the input reads as it did. -/
def fnExactNoonHeightSpec : ChangeSpec := { name := "fnExactNoonHeight", fn := fun _ => fun
  | [d1, d2] => { results := [.lit (.bool true)], args := [d1, d2] }
  | _ => none }
def fnExactNoonHeightRow : OpenClaim := { program := "ytibbbeidbapfeaa", sum := "e37c7321494f621fda438f4ad9446f74971a3418df5e3ee7b24217c4959188f1", func := "loop.example/g01055/laws.FnExactNoonHeight", spec := "fnExactNoonHeight", apart := false }
def FnExactNoonHeightSaid : Prop := fnExactNoonHeightRow.holds Try.pinned (OpenSpec.ofChange fnExactNoonHeightSpec)

/-- ITS FALSE NEIGHBOUR: 'it returns false'. Refute it at one input. -/
def fnExactNoonHeightWrong : ChangeSpec := { name := "fnExactNoonHeight", fn := fun _ => fun
  | [d1, d2] => { results := [.lit (.bool false)], args := [d1, d2] }
  | _ => none }
def FnExactNoonHeightWrongFalsely : Prop := fnExactNoonHeightRow.holds Try.pinned (OpenSpec.ofChange fnExactNoonHeightWrong)

/-- 'laws.FnExactSunDeclination': WHATEVER THE INPUT: true; the input reads as it did. -/
def fnExactSunDeclinationSpec : ChangeSpec := { name := "fnExactSunDeclination", fn := fun _ => fun
  | [d] => { results := [.lit (.bool true)], args := [d] }
  | _ => none }
def fnExactSunDeclinationRow : OpenClaim := { program := "ytibbbeidbapfeaa", sum := "e37c7321494f621fda438f4ad9446f74971a3418df5e3ee7b24217c4959188f1", func := "loop.example/g01055/laws.FnExactSunDeclination", spec := "fnExactSunDeclination", recurses := true, apart := false }
def FnExactSunDeclinationSaid : Prop := fnExactSunDeclinationRow.holds Try.pinned (OpenSpec.ofChange fnExactSunDeclinationSpec)

/-- ITS FALSE NEIGHBOUR: 'it returns false'. Refute it at one input. -/
def fnExactSunDeclinationWrong : ChangeSpec := { name := "fnExactSunDeclination", fn := fun _ => fun
  | [d] => { results := [.lit (.bool false)], args := [d] }
  | _ => none }
def FnExactSunDeclinationWrongFalsely : Prop := fnExactSunDeclinationRow.holds Try.pinned (OpenSpec.ofChange fnExactSunDeclinationWrong)

/-- 'laws.FnExactAltitudeSine': WHATEVER THE INPUT: true; the input reads as it did. -/
def fnExactAltitudeSineSpec : ChangeSpec := { name := "fnExactAltitudeSine", fn := fun _ => fun
  | [d1, d2, d3] => { results := [.lit (.bool true)], args := [d1, d2, d3] }
  | _ => none }
def fnExactAltitudeSineRow : OpenClaim := { program := "ytibbbeidbapfeaa", sum := "e37c7321494f621fda438f4ad9446f74971a3418df5e3ee7b24217c4959188f1", func := "loop.example/g01055/laws.FnExactAltitudeSine", spec := "fnExactAltitudeSine", recurses := true, apart := false }
def FnExactAltitudeSineSaid : Prop := fnExactAltitudeSineRow.holds Try.pinned (OpenSpec.ofChange fnExactAltitudeSineSpec)

/-- ITS FALSE NEIGHBOUR: 'it returns false'. Refute it at one input. -/
def fnExactAltitudeSineWrong : ChangeSpec := { name := "fnExactAltitudeSine", fn := fun _ => fun
  | [d1, d2, d3] => { results := [.lit (.bool false)], args := [d1, d2, d3] }
  | _ => none }
def FnExactAltitudeSineWrongFalsely : Prop := fnExactAltitudeSineRow.holds Try.pinned (OpenSpec.ofChange fnExactAltitudeSineWrong)

/-- 'laws.FnExactIsUp': WHATEVER THE INPUT: true; the input reads as it did. -/
def fnExactIsUpSpec : ChangeSpec := { name := "fnExactIsUp", fn := fun _ => fun
  | [d1, d2, d3] => { results := [.lit (.bool true)], args := [d1, d2, d3] }
  | _ => none }
def fnExactIsUpRow : OpenClaim := { program := "ytibbbeidbapfeaa", sum := "e37c7321494f621fda438f4ad9446f74971a3418df5e3ee7b24217c4959188f1", func := "loop.example/g01055/laws.FnExactIsUp", spec := "fnExactIsUp", recurses := true, apart := false }
def FnExactIsUpSaid : Prop := fnExactIsUpRow.holds Try.pinned (OpenSpec.ofChange fnExactIsUpSpec)

/-- ITS FALSE NEIGHBOUR: 'it returns false'. Refute it at one input. -/
def fnExactIsUpWrong : ChangeSpec := { name := "fnExactIsUp", fn := fun _ => fun
  | [d1, d2, d3] => { results := [.lit (.bool false)], args := [d1, d2, d3] }
  | _ => none }
def FnExactIsUpWrongFalsely : Prop := fnExactIsUpRow.holds Try.pinned (OpenSpec.ofChange fnExactIsUpWrong)

/-- 'laws.FnExactWhiteNights': WHATEVER THE INPUT: true; the input reads as it did. -/
def fnExactWhiteNightsSpec : ChangeSpec := { name := "fnExactWhiteNights", fn := fun _ => fun
  | [d] => { results := [.lit (.bool true)], args := [d] }
  | _ => none }
def fnExactWhiteNightsRow : OpenClaim := { program := "ytibbbeidbapfeaa", sum := "e37c7321494f621fda438f4ad9446f74971a3418df5e3ee7b24217c4959188f1", func := "loop.example/g01055/laws.FnExactWhiteNights", spec := "fnExactWhiteNights", recurses := true, apart := false }
def FnExactWhiteNightsSaid : Prop := fnExactWhiteNightsRow.holds Try.pinned (OpenSpec.ofChange fnExactWhiteNightsSpec)

/-- ITS FALSE NEIGHBOUR: 'it returns false'. Refute it at one input. -/
def fnExactWhiteNightsWrong : ChangeSpec := { name := "fnExactWhiteNights", fn := fun _ => fun
  | [d] => { results := [.lit (.bool false)], args := [d] }
  | _ => none }
def FnExactWhiteNightsWrongFalsely : Prop := fnExactWhiteNightsRow.holds Try.pinned (OpenSpec.ofChange fnExactWhiteNightsWrong)

/-- 'laws.FnSettings': WHATEVER THE INPUT: true; the input reads as it did. -/
def fnSettingsSpec : ChangeSpec := { name := "fnSettings", fn := fun _ => fun
  | [d1, d2] => { results := [.lit (.bool true)], args := [d1, d2] }
  | _ => none }
def fnSettingsRow : OpenClaim := { program := "ytibbbeidbapfeaa", sum := "e37c7321494f621fda438f4ad9446f74971a3418df5e3ee7b24217c4959188f1", func := "loop.example/g01055/laws.FnSettings", spec := "fnSettings", recurses := true, apart := false }
def FnSettingsSaid : Prop := fnSettingsRow.holds Try.pinned (OpenSpec.ofChange fnSettingsSpec)

/-- ITS FALSE NEIGHBOUR: 'it returns false'. Refute it at one input. -/
def fnSettingsWrong : ChangeSpec := { name := "fnSettings", fn := fun _ => fun
  | [d1, d2] => { results := [.lit (.bool false)], args := [d1, d2] }
  | _ => none }
def FnSettingsWrongFalsely : Prop := fnSettingsRow.holds Try.pinned (OpenSpec.ofChange fnSettingsWrong)

/-- 'laws.FnExactLatitudeForDay': WHATEVER THE INPUT: true; the input reads as it did. -/
def fnExactLatitudeForDaySpec : ChangeSpec := { name := "fnExactLatitudeForDay", fn := fun _ => fun
  | [d] => { results := [.lit (.bool true)], args := [d] }
  | _ => none }
def fnExactLatitudeForDayRow : OpenClaim := { program := "ytibbbeidbapfeaa", sum := "e37c7321494f621fda438f4ad9446f74971a3418df5e3ee7b24217c4959188f1", func := "loop.example/g01055/laws.FnExactLatitudeForDay", spec := "fnExactLatitudeForDay", recurses := true, apart := false }
def FnExactLatitudeForDaySaid : Prop := fnExactLatitudeForDayRow.holds Try.pinned (OpenSpec.ofChange fnExactLatitudeForDaySpec)

/-- ITS FALSE NEIGHBOUR: 'it returns false'. Refute it at one input. -/
def fnExactLatitudeForDayWrong : ChangeSpec := { name := "fnExactLatitudeForDay", fn := fun _ => fun
  | [d] => { results := [.lit (.bool false)], args := [d] }
  | _ => none }
def FnExactLatitudeForDayWrongFalsely : Prop := fnExactLatitudeForDayRow.holds Try.pinned (OpenSpec.ofChange fnExactLatitudeForDayWrong)

/-- 'laws.FnExactSettingHour': WHATEVER THE INPUT: true; the input reads as it did. -/
def fnExactSettingHourSpec : ChangeSpec := { name := "fnExactSettingHour", fn := fun _ => fun
  | [d1, d2] => { results := [.lit (.bool true)], args := [d1, d2] }
  | _ => none }
def fnExactSettingHourRow : OpenClaim := { program := "ytibbbeidbapfeaa", sum := "e37c7321494f621fda438f4ad9446f74971a3418df5e3ee7b24217c4959188f1", func := "loop.example/g01055/laws.FnExactSettingHour", spec := "fnExactSettingHour", recurses := true, apart := false }
def FnExactSettingHourSaid : Prop := fnExactSettingHourRow.holds Try.pinned (OpenSpec.ofChange fnExactSettingHourSpec)

/-- ITS FALSE NEIGHBOUR: 'it returns false'. Refute it at one input. -/
def fnExactSettingHourWrong : ChangeSpec := { name := "fnExactSettingHour", fn := fun _ => fun
  | [d1, d2] => { results := [.lit (.bool false)], args := [d1, d2] }
  | _ => none }
def FnExactSettingHourWrongFalsely : Prop := fnExactSettingHourRow.holds Try.pinned (OpenSpec.ofChange fnExactSettingHourWrong)

/-- 'laws.FnExactSettingByTurning': WHATEVER THE INPUT: true; the input reads as it did. -/
def fnExactSettingByTurningSpec : ChangeSpec := { name := "fnExactSettingByTurning", fn := fun _ => fun
  | [d1, d2, d3] => { results := [.lit (.bool true)], args := [d1, d2, d3] }
  | _ => none }
def fnExactSettingByTurningRow : OpenClaim := { program := "ytibbbeidbapfeaa", sum := "e37c7321494f621fda438f4ad9446f74971a3418df5e3ee7b24217c4959188f1", func := "loop.example/g01055/laws.FnExactSettingByTurning", spec := "fnExactSettingByTurning", recurses := true, apart := false }
def FnExactSettingByTurningSaid : Prop := fnExactSettingByTurningRow.holds Try.pinned (OpenSpec.ofChange fnExactSettingByTurningSpec)

/-- ITS FALSE NEIGHBOUR: 'it returns false'. Refute it at one input. -/
def fnExactSettingByTurningWrong : ChangeSpec := { name := "fnExactSettingByTurning", fn := fun _ => fun
  | [d1, d2, d3] => { results := [.lit (.bool false)], args := [d1, d2, d3] }
  | _ => none }
def FnExactSettingByTurningWrongFalsely : Prop := fnExactSettingByTurningRow.holds Try.pinned (OpenSpec.ofChange fnExactSettingByTurningWrong)

/-- 'laws.FnExactUpAngle': WHATEVER THE INPUT: true; the input reads as it did. -/
def fnExactUpAngleSpec : ChangeSpec := { name := "fnExactUpAngle", fn := fun _ => fun
  | [d1, d2] => { results := [.lit (.bool true)], args := [d1, d2] }
  | _ => none }
def fnExactUpAngleRow : OpenClaim := { program := "ytibbbeidbapfeaa", sum := "e37c7321494f621fda438f4ad9446f74971a3418df5e3ee7b24217c4959188f1", func := "loop.example/g01055/laws.FnExactUpAngle", spec := "fnExactUpAngle", recurses := true, apart := false }
def FnExactUpAngleSaid : Prop := fnExactUpAngleRow.holds Try.pinned (OpenSpec.ofChange fnExactUpAngleSpec)

/-- ITS FALSE NEIGHBOUR: 'it returns false'. Refute it at one input. -/
def fnExactUpAngleWrong : ChangeSpec := { name := "fnExactUpAngle", fn := fun _ => fun
  | [d1, d2] => { results := [.lit (.bool false)], args := [d1, d2] }
  | _ => none }
def FnExactUpAngleWrongFalsely : Prop := fnExactUpAngleRow.holds Try.pinned (OpenSpec.ofChange fnExactUpAngleWrong)

/-- 'laws.FnExactLongestDay': WHATEVER THE INPUT: true; the input reads as it did. -/
def fnExactLongestDaySpec : ChangeSpec := { name := "fnExactLongestDay", fn := fun _ => fun
  | [d] => { results := [.lit (.bool true)], args := [d] }
  | _ => none }
def fnExactLongestDayRow : OpenClaim := { program := "ytibbbeidbapfeaa", sum := "e37c7321494f621fda438f4ad9446f74971a3418df5e3ee7b24217c4959188f1", func := "loop.example/g01055/laws.FnExactLongestDay", spec := "fnExactLongestDay", recurses := true, apart := false }
def FnExactLongestDaySaid : Prop := fnExactLongestDayRow.holds Try.pinned (OpenSpec.ofChange fnExactLongestDaySpec)

/-- ITS FALSE NEIGHBOUR: 'it returns false'. Refute it at one input. -/
def fnExactLongestDayWrong : ChangeSpec := { name := "fnExactLongestDay", fn := fun _ => fun
  | [d] => { results := [.lit (.bool false)], args := [d] }
  | _ => none }
def FnExactLongestDayWrongFalsely : Prop := fnExactLongestDayRow.holds Try.pinned (OpenSpec.ofChange fnExactLongestDayWrong)

/-- 'laws.FnSuns': WHATEVER THE INPUT: true; the input reads as it did. -/
def fnSunsSpec : ChangeSpec := { name := "fnSuns", fn := fun _ => fun
  | [d1, d2] => { results := [.lit (.bool true)], args := [d1, d2] }
  | _ => none }
def fnSunsRow : OpenClaim := { program := "ytibbbeidbapfeaa", sum := "e37c7321494f621fda438f4ad9446f74971a3418df5e3ee7b24217c4959188f1", func := "loop.example/g01055/laws.FnSuns", spec := "fnSuns", recurses := true, apart := false }
def FnSunsSaid : Prop := fnSunsRow.holds Try.pinned (OpenSpec.ofChange fnSunsSpec)

/-- ITS FALSE NEIGHBOUR: 'it returns false'. Refute it at one input. -/
def fnSunsWrong : ChangeSpec := { name := "fnSuns", fn := fun _ => fun
  | [d1, d2] => { results := [.lit (.bool false)], args := [d1, d2] }
  | _ => none }
def FnSunsWrongFalsely : Prop := fnSunsRow.holds Try.pinned (OpenSpec.ofChange fnSunsWrong)

/- THE SECOND FORM. 'bulk': how many values and letters a reading holds, each counted each time it is reached (what is shared counts as often as it is met; a slice's spare places count too). A statement '..UptoSaid' is the law's where the arguments, and the package variables that the reading takes, are together of bulk at most 1048576: NARROWER than '..Said'. Prove '..Said' where nothing that the law and all that it calls make is longer than what came in: it says more and counts as full. Else prove '..UptoSaid'. A law counts once. -/
mutual
def uptoBulk {H : Type} : DataW H → Nat
  | .lit (.string bytes) => bytes.length + 1
  | .lit _ => 1
  | .nil => 1
  | .ptr d => uptoBulk d + 1
  | .slice elems spare => uptoBulkAll elems + uptoBulkAll spare + 1
  | .agg parts => uptoBulkAll parts + 1
  | .iface _ d => uptoBulk d + 1
  | .map entries => uptoBulkEntries entries + 1
  | .held _ => 1
def uptoBulkAll {H : Type} : List (DataW H) → Nat
  | [] => 0
  | d :: r => uptoBulk d + uptoBulkAll r
def uptoBulkEntries {H : Type} : List (Lit × DataW H) → Nat
  | [] => 0
  | x :: r => uptoBulkEntry x + uptoBulkEntries r
def uptoBulkEntry {H : Type} : Lit × DataW H → Nat
  | (.string bytes, d) => bytes.length + uptoBulk d + 1
  | (_, d) => uptoBulk d + 1
 end
def uptoSmall : (H : Type) → List (DataW H) → Bool := fun _ ds => decide (uptoBulkAll ds ≤ 1048576)
def OpenSpec.upto (s : _root_.Go.ChangeSpec) : _root_.Go.OpenSpec := { _root_.Go.OpenSpec.ofChange s with cond := some uptoSmall }

/-- 'laws.FnExactNoonHeight', WHERE WHAT IT READS IS OF BULK AT MOST 1048576: true; the input reads as it did. -/
def fnExactNoonHeightUptoRow : OpenClaim := { program := "ytibbbeidbapfeaa", sum := "e37c7321494f621fda438f4ad9446f74971a3418df5e3ee7b24217c4959188f1", func := "loop.example/g01055/laws.FnExactNoonHeight", spec := "fnExactNoonHeight", apart := false, narrowed := true }
def FnExactNoonHeightUptoSaid : Prop := fnExactNoonHeightUptoRow.holds Try.pinned (OpenSpec.upto fnExactNoonHeightSpec)

/-- 'laws.FnExactSunDeclination', WHERE WHAT IT READS IS OF BULK AT MOST 1048576: true; the input reads as it did. -/
def fnExactSunDeclinationUptoRow : OpenClaim := { program := "ytibbbeidbapfeaa", sum := "e37c7321494f621fda438f4ad9446f74971a3418df5e3ee7b24217c4959188f1", func := "loop.example/g01055/laws.FnExactSunDeclination", spec := "fnExactSunDeclination", recurses := true, apart := false, narrowed := true }
def FnExactSunDeclinationUptoSaid : Prop := fnExactSunDeclinationUptoRow.holds Try.pinned (OpenSpec.upto fnExactSunDeclinationSpec)

/-- 'laws.FnExactAltitudeSine', WHERE WHAT IT READS IS OF BULK AT MOST 1048576: true; the input reads as it did. -/
def fnExactAltitudeSineUptoRow : OpenClaim := { program := "ytibbbeidbapfeaa", sum := "e37c7321494f621fda438f4ad9446f74971a3418df5e3ee7b24217c4959188f1", func := "loop.example/g01055/laws.FnExactAltitudeSine", spec := "fnExactAltitudeSine", recurses := true, apart := false, narrowed := true }
def FnExactAltitudeSineUptoSaid : Prop := fnExactAltitudeSineUptoRow.holds Try.pinned (OpenSpec.upto fnExactAltitudeSineSpec)

/-- 'laws.FnExactIsUp', WHERE WHAT IT READS IS OF BULK AT MOST 1048576: true; the input reads as it did. -/
def fnExactIsUpUptoRow : OpenClaim := { program := "ytibbbeidbapfeaa", sum := "e37c7321494f621fda438f4ad9446f74971a3418df5e3ee7b24217c4959188f1", func := "loop.example/g01055/laws.FnExactIsUp", spec := "fnExactIsUp", recurses := true, apart := false, narrowed := true }
def FnExactIsUpUptoSaid : Prop := fnExactIsUpUptoRow.holds Try.pinned (OpenSpec.upto fnExactIsUpSpec)

/-- 'laws.FnExactWhiteNights', WHERE WHAT IT READS IS OF BULK AT MOST 1048576: true; the input reads as it did. -/
def fnExactWhiteNightsUptoRow : OpenClaim := { program := "ytibbbeidbapfeaa", sum := "e37c7321494f621fda438f4ad9446f74971a3418df5e3ee7b24217c4959188f1", func := "loop.example/g01055/laws.FnExactWhiteNights", spec := "fnExactWhiteNights", recurses := true, apart := false, narrowed := true }
def FnExactWhiteNightsUptoSaid : Prop := fnExactWhiteNightsUptoRow.holds Try.pinned (OpenSpec.upto fnExactWhiteNightsSpec)

/-- 'laws.FnSettings', WHERE WHAT IT READS IS OF BULK AT MOST 1048576: true; the input reads as it did. -/
def fnSettingsUptoRow : OpenClaim := { program := "ytibbbeidbapfeaa", sum := "e37c7321494f621fda438f4ad9446f74971a3418df5e3ee7b24217c4959188f1", func := "loop.example/g01055/laws.FnSettings", spec := "fnSettings", recurses := true, apart := false, narrowed := true }
def FnSettingsUptoSaid : Prop := fnSettingsUptoRow.holds Try.pinned (OpenSpec.upto fnSettingsSpec)

/-- 'laws.FnExactLatitudeForDay', WHERE WHAT IT READS IS OF BULK AT MOST 1048576: true; the input reads as it did. -/
def fnExactLatitudeForDayUptoRow : OpenClaim := { program := "ytibbbeidbapfeaa", sum := "e37c7321494f621fda438f4ad9446f74971a3418df5e3ee7b24217c4959188f1", func := "loop.example/g01055/laws.FnExactLatitudeForDay", spec := "fnExactLatitudeForDay", recurses := true, apart := false, narrowed := true }
def FnExactLatitudeForDayUptoSaid : Prop := fnExactLatitudeForDayUptoRow.holds Try.pinned (OpenSpec.upto fnExactLatitudeForDaySpec)

/-- 'laws.FnExactSettingHour', WHERE WHAT IT READS IS OF BULK AT MOST 1048576: true; the input reads as it did. -/
def fnExactSettingHourUptoRow : OpenClaim := { program := "ytibbbeidbapfeaa", sum := "e37c7321494f621fda438f4ad9446f74971a3418df5e3ee7b24217c4959188f1", func := "loop.example/g01055/laws.FnExactSettingHour", spec := "fnExactSettingHour", recurses := true, apart := false, narrowed := true }
def FnExactSettingHourUptoSaid : Prop := fnExactSettingHourUptoRow.holds Try.pinned (OpenSpec.upto fnExactSettingHourSpec)

/-- 'laws.FnExactSettingByTurning', WHERE WHAT IT READS IS OF BULK AT MOST 1048576: true; the input reads as it did. -/
def fnExactSettingByTurningUptoRow : OpenClaim := { program := "ytibbbeidbapfeaa", sum := "e37c7321494f621fda438f4ad9446f74971a3418df5e3ee7b24217c4959188f1", func := "loop.example/g01055/laws.FnExactSettingByTurning", spec := "fnExactSettingByTurning", recurses := true, apart := false, narrowed := true }
def FnExactSettingByTurningUptoSaid : Prop := fnExactSettingByTurningUptoRow.holds Try.pinned (OpenSpec.upto fnExactSettingByTurningSpec)

/-- 'laws.FnExactUpAngle', WHERE WHAT IT READS IS OF BULK AT MOST 1048576: true; the input reads as it did. -/
def fnExactUpAngleUptoRow : OpenClaim := { program := "ytibbbeidbapfeaa", sum := "e37c7321494f621fda438f4ad9446f74971a3418df5e3ee7b24217c4959188f1", func := "loop.example/g01055/laws.FnExactUpAngle", spec := "fnExactUpAngle", recurses := true, apart := false, narrowed := true }
def FnExactUpAngleUptoSaid : Prop := fnExactUpAngleUptoRow.holds Try.pinned (OpenSpec.upto fnExactUpAngleSpec)

/-- 'laws.FnExactLongestDay', WHERE WHAT IT READS IS OF BULK AT MOST 1048576: true; the input reads as it did. -/
def fnExactLongestDayUptoRow : OpenClaim := { program := "ytibbbeidbapfeaa", sum := "e37c7321494f621fda438f4ad9446f74971a3418df5e3ee7b24217c4959188f1", func := "loop.example/g01055/laws.FnExactLongestDay", spec := "fnExactLongestDay", recurses := true, apart := false, narrowed := true }
def FnExactLongestDayUptoSaid : Prop := fnExactLongestDayUptoRow.holds Try.pinned (OpenSpec.upto fnExactLongestDaySpec)

/-- 'laws.FnSuns', WHERE WHAT IT READS IS OF BULK AT MOST 1048576: true; the input reads as it did. -/
def fnSunsUptoRow : OpenClaim := { program := "ytibbbeidbapfeaa", sum := "e37c7321494f621fda438f4ad9446f74971a3418df5e3ee7b24217c4959188f1", func := "loop.example/g01055/laws.FnSuns", spec := "fnSuns", recurses := true, apart := false, narrowed := true }
def FnSunsUptoSaid : Prop := fnSunsUptoRow.holds Try.pinned (OpenSpec.upto fnSunsSpec)

end Rows
end Go.Proofs.Ytibbbeidbapfeaa
