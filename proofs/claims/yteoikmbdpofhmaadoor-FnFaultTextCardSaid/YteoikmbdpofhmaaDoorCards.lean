/-
  DERIVED. GIVEN WITH THE SEED: THE CARDS: each row of YteoikmbdpofhmaaDoorRows.lean that lists a variable, with what it lists TIED to the program's text (the seventh form; the later family's looks); each row that meets fmt, with fmt's text TOLD by the authors' own Lean function (tested against real Go, not proved from fmt's source: count such statements apart). THE CARD IS WHAT COUNTS. Prove the row's statement (the work); the ties are given (YteoikmbdpofhmaaDoorTie.lean); close each card by the builder's one call (the guide's Derived/Test/ToyasCard.lean, 'card_holds'). Laid BY PROGRAM, IN A SANDBOX (cutbox-door.mjs). By AI agents, Wed Nov 11 2026. No macro, syntax, notation, axiom, sorry.
-/
import Derived.Test.YteoikmbdpofhmaaDoorRows
import GoSem.ClaimSeven
namespace Go.Proofs.YteoikmbdpofhmaaDoor
namespace Rows

/-- THE TIED CARD OF 'laws.FnExactFaultText'. -/
def fnExactFaultTextCard : Claim7 := { stood := { row := fnExactFaultTextRow, standIns := [], harness := (true, "1ac504451ea0b1068e0238df47b949288ae861f42cf6886e18fd8edd73597a27"), looks := false }, kinds := [], alts := [], laidByText := true, laidKinds := [.data, .data, .data], laidTests := true, laidLooks := .later }
def FnExactFaultTextCardSaid : Prop := Claim7.holds Tryd.pinned (.plain (OpenSpec.ofChange fnExactFaultTextSpec)) fnExactFaultTextCard

/-- THE TIED CARD OF 'laws.FnFaultText'. -/
def fnFaultTextCard : Claim7 := { stood := { row := fnFaultTextRow, standIns := [], harness := (true, "1ac504451ea0b1068e0238df47b949288ae861f42cf6886e18fd8edd73597a27"), looks := false }, kinds := [], alts := [], laidByText := true, laidKinds := [.data, .data, .data], laidTests := true, laidLooks := .later }
def FnFaultTextCardSaid : Prop := Claim7.holds Tryd.pinned (.plain (OpenSpec.ofChange fnFaultTextSpec)) fnFaultTextCard

/-- THE SECOND FORM's CARD OF 'laws.FnExactFaultText'. -/
def fnExactFaultTextUptoCard : Claim7 := { stood := { row := fnExactFaultTextUptoRow, standIns := [], harness := (true, "1ac504451ea0b1068e0238df47b949288ae861f42cf6886e18fd8edd73597a27"), looks := false }, kinds := [], alts := [], laidByText := true, laidKinds := [.data, .data, .data], laidTests := true, laidLooks := .later }
def FnExactFaultTextUptoCardSaid : Prop := Claim7.holds Tryd.pinned (.plain (OpenSpec.upto fnExactFaultTextSpec)) fnExactFaultTextUptoCard

/-- THE SECOND FORM's CARD OF 'laws.FnFaultText'. -/
def fnFaultTextUptoCard : Claim7 := { stood := { row := fnFaultTextUptoRow, standIns := [], harness := (true, "1ac504451ea0b1068e0238df47b949288ae861f42cf6886e18fd8edd73597a27"), looks := false }, kinds := [], alts := [], laidByText := true, laidKinds := [.data, .data, .data], laidTests := true, laidLooks := .later }
def FnFaultTextUptoCardSaid : Prop := Claim7.holds Tryd.pinned (.plain (OpenSpec.upto fnFaultTextSpec)) fnFaultTextUptoCard
end Rows
end Go.Proofs.YteoikmbdpofhmaaDoor
