/-
  DERIVED. GIVEN WITH THE SEED: THE CARDS: each row of YtfpddpkloplpeaaDoorRows.lean that lists a variable, with what it lists TIED to the program's text (the seventh form; the later family's looks); each row that meets fmt, with fmt's text TOLD by the authors' own Lean function (tested against real Go, not proved from fmt's source: count such statements apart). THE CARD IS WHAT COUNTS. Prove the row's statement (the work); the ties are given (YtfpddpkloplpeaaDoorTie.lean); close each card by the builder's one call (the guide's Derived/Test/ToyasCard.lean, 'card_holds'). Laid BY PROGRAM, IN A SANDBOX (cutbox-door.mjs). By AI agents, Wed Nov 11 2026. No macro, syntax, notation, axiom, sorry.
-/
import Derived.Test.YtfpddpkloplpeaaDoorRows
import GoSem.ClaimSeven
namespace Go.Proofs.YtfpddpkloplpeaaDoor
namespace Rows

/-- THE TIED CARD OF 'laws.FnExactCountOrders'. -/
def fnExactCountOrdersCard : Claim7 := { stood := { row := fnExactCountOrdersRow, standIns := [], harness := (true, "3c8c349a3428bf713b1cee0a1ba2e55f96aa5553f2b6d19f613d4b3b9ec4bc41"), looks := false }, kinds := [], alts := [], laidByText := true, laidKinds := [.data, .pinned], laidTests := true, laidLooks := .later }
def FnExactCountOrdersCardSaid : Prop := Claim7.holds Tryd.pinned (.plain (OpenSpec.ofChange fnExactCountOrdersSpec)) fnExactCountOrdersCard

/-- THE TIED CARD OF 'laws.FnExactOrderFor'. -/
def fnExactOrderForCard : Claim7 := { stood := { row := fnExactOrderForRow, standIns := [], harness := (true, "3c8c349a3428bf713b1cee0a1ba2e55f96aa5553f2b6d19f613d4b3b9ec4bc41"), looks := false }, kinds := [], alts := [], laidByText := true, laidKinds := [.data, .pinned], laidTests := true, laidLooks := .later }
def FnExactOrderForCardSaid : Prop := Claim7.holds Tryd.pinned (.plain (OpenSpec.ofChange fnExactOrderForSpec)) fnExactOrderForCard

/-- THE TIED CARD OF 'laws.FnSeamsHidden'. -/
def fnSeamsHiddenCard : Claim7 := { stood := { row := fnSeamsHiddenRow, standIns := [], harness := (true, "3c8c349a3428bf713b1cee0a1ba2e55f96aa5553f2b6d19f613d4b3b9ec4bc41"), looks := false }, kinds := [], alts := [], laidByText := true, laidKinds := [.data, .pinned], laidTests := true, laidLooks := .later }
def FnSeamsHiddenCardSaid : Prop := Claim7.holds Tryd.pinned (.plain (OpenSpec.ofChange fnSeamsHiddenSpec)) fnSeamsHiddenCard

/-- THE SECOND FORM's CARD OF 'laws.FnExactCountOrders'. -/
def fnExactCountOrdersUptoCard : Claim7 := { stood := { row := fnExactCountOrdersUptoRow, standIns := [], harness := (true, "3c8c349a3428bf713b1cee0a1ba2e55f96aa5553f2b6d19f613d4b3b9ec4bc41"), looks := false }, kinds := [], alts := [], laidByText := true, laidKinds := [.data, .pinned], laidTests := true, laidLooks := .later }
def FnExactCountOrdersUptoCardSaid : Prop := Claim7.holds Tryd.pinned (.plain (OpenSpec.upto fnExactCountOrdersSpec)) fnExactCountOrdersUptoCard

/-- THE SECOND FORM's CARD OF 'laws.FnExactOrderFor'. -/
def fnExactOrderForUptoCard : Claim7 := { stood := { row := fnExactOrderForUptoRow, standIns := [], harness := (true, "3c8c349a3428bf713b1cee0a1ba2e55f96aa5553f2b6d19f613d4b3b9ec4bc41"), looks := false }, kinds := [], alts := [], laidByText := true, laidKinds := [.data, .pinned], laidTests := true, laidLooks := .later }
def FnExactOrderForUptoCardSaid : Prop := Claim7.holds Tryd.pinned (.plain (OpenSpec.upto fnExactOrderForSpec)) fnExactOrderForUptoCard

/-- THE SECOND FORM's CARD OF 'laws.FnSeamsHidden'. -/
def fnSeamsHiddenUptoCard : Claim7 := { stood := { row := fnSeamsHiddenUptoRow, standIns := [], harness := (true, "3c8c349a3428bf713b1cee0a1ba2e55f96aa5553f2b6d19f613d4b3b9ec4bc41"), looks := false }, kinds := [], alts := [], laidByText := true, laidKinds := [.data, .pinned], laidTests := true, laidLooks := .later }
def FnSeamsHiddenUptoCardSaid : Prop := Claim7.holds Tryd.pinned (.plain (OpenSpec.upto fnSeamsHiddenSpec)) fnSeamsHiddenUptoCard
end Rows
end Go.Proofs.YtfpddpkloplpeaaDoor
