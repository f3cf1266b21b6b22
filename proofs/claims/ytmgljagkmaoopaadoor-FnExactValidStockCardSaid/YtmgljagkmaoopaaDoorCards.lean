/-
  DERIVED. GIVEN WITH THE SEED: THE CARDS: each row of YtmgljagkmaoopaaDoorRows.lean that lists a variable, with what it lists TIED to the program's text (the seventh form; the later family's looks); each row that meets fmt, with fmt's text TOLD by the authors' own Lean function (tested against real Go, not proved from fmt's source: count such statements apart). THE CARD IS WHAT COUNTS. Prove the row's statement (the work); the ties are given (YtmgljagkmaoopaaDoorTie.lean); close each card by the builder's one call (the guide's Derived/Test/ToyasCard.lean, 'card_holds'). Laid BY PROGRAM, IN A SANDBOX (cutbox-door.mjs). By AI agents, Wed Nov 11 2026. No macro, syntax, notation, axiom, sorry.
-/
import Derived.Test.YtmgljagkmaoopaaDoorRows
import GoSem.ClaimSeven
namespace Go.Proofs.YtmgljagkmaoopaaDoor
namespace Rows

/-- THE TIED CARD OF 'laws.FnExactValidStock'. -/
def fnExactValidStockCard : Claim7 := { stood := { row := fnExactValidStockRow, standIns := [], harness := (true, "107edfe363566b1d2751abc4573790e4d9ba6c624a89913290b8dfa804b3cf38"), looks := false }, kinds := [], alts := [], laidByText := true, laidKinds := [.data, .pinned], laidTests := true, laidLooks := .later }
def FnExactValidStockCardSaid : Prop := Claim7.holds Tryd.pinned (.plain (OpenSpec.ofChange fnExactValidStockSpec)) fnExactValidStockCard

/-- THE TIED CARD OF 'laws.FnExactWorthOfStock'. -/
def fnExactWorthOfStockCard : Claim7 := { stood := { row := fnExactWorthOfStockRow, standIns := [], harness := (true, "107edfe363566b1d2751abc4573790e4d9ba6c624a89913290b8dfa804b3cf38"), looks := false }, kinds := [], alts := [], laidByText := true, laidKinds := [.data, .pinned], laidTests := true, laidLooks := .later }
def FnExactWorthOfStockCardSaid : Prop := Claim7.holds Tryd.pinned (.plain (OpenSpec.ofChange fnExactWorthOfStockSpec)) fnExactWorthOfStockCard

/-- THE TIED CARD OF 'laws.FnExactRefillCost'. -/
def fnExactRefillCostCard : Claim7 := { stood := { row := fnExactRefillCostRow, standIns := [], harness := (true, "107edfe363566b1d2751abc4573790e4d9ba6c624a89913290b8dfa804b3cf38"), looks := false }, kinds := [], alts := [], laidByText := true, laidKinds := [.data, .pinned], laidTests := true, laidLooks := .later }
def FnExactRefillCostCardSaid : Prop := Claim7.holds Tryd.pinned (.plain (OpenSpec.ofChange fnExactRefillCostSpec)) fnExactRefillCostCard

/-- THE SECOND FORM's CARD OF 'laws.FnExactValidStock'. -/
def fnExactValidStockUptoCard : Claim7 := { stood := { row := fnExactValidStockUptoRow, standIns := [], harness := (true, "107edfe363566b1d2751abc4573790e4d9ba6c624a89913290b8dfa804b3cf38"), looks := false }, kinds := [], alts := [], laidByText := true, laidKinds := [.data, .pinned], laidTests := true, laidLooks := .later }
def FnExactValidStockUptoCardSaid : Prop := Claim7.holds Tryd.pinned (.plain (OpenSpec.upto fnExactValidStockSpec)) fnExactValidStockUptoCard

/-- THE SECOND FORM's CARD OF 'laws.FnExactWorthOfStock'. -/
def fnExactWorthOfStockUptoCard : Claim7 := { stood := { row := fnExactWorthOfStockUptoRow, standIns := [], harness := (true, "107edfe363566b1d2751abc4573790e4d9ba6c624a89913290b8dfa804b3cf38"), looks := false }, kinds := [], alts := [], laidByText := true, laidKinds := [.data, .pinned], laidTests := true, laidLooks := .later }
def FnExactWorthOfStockUptoCardSaid : Prop := Claim7.holds Tryd.pinned (.plain (OpenSpec.upto fnExactWorthOfStockSpec)) fnExactWorthOfStockUptoCard

/-- THE SECOND FORM's CARD OF 'laws.FnExactRefillCost'. -/
def fnExactRefillCostUptoCard : Claim7 := { stood := { row := fnExactRefillCostUptoRow, standIns := [], harness := (true, "107edfe363566b1d2751abc4573790e4d9ba6c624a89913290b8dfa804b3cf38"), looks := false }, kinds := [], alts := [], laidByText := true, laidKinds := [.data, .pinned], laidTests := true, laidLooks := .later }
def FnExactRefillCostUptoCardSaid : Prop := Claim7.holds Tryd.pinned (.plain (OpenSpec.upto fnExactRefillCostSpec)) fnExactRefillCostUptoCard
end Rows
end Go.Proofs.YtmgljagkmaoopaaDoor
