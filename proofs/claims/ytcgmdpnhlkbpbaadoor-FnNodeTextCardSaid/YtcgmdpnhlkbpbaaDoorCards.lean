/-
  DERIVED. GIVEN WITH THE SEED: THE CARDS: each row of YtcgmdpnhlkbpbaaDoorRows.lean that lists a variable, with what it lists TIED to the program's text (the seventh form; the later family's looks); each row that meets fmt, with fmt's text TOLD by the authors' own Lean function (tested against real Go, not proved from fmt's source: count such statements apart). THE CARD IS WHAT COUNTS. Prove the row's statement (the work); the ties are given (YtcgmdpnhlkbpbaaDoorTie.lean); close each card by the builder's one call (the guide's Derived/Test/ToyasCard.lean, 'card_holds'). Laid BY PROGRAM, IN A SANDBOX (cutbox-door.mjs). By AI agents, Wed Nov 11 2026. No macro, syntax, notation, axiom, sorry.
-/
import Derived.Test.YtcgmdpnhlkbpbaaDoorRows
import GoSem.ClaimSeven
namespace Go.Proofs.YtcgmdpnhlkbpbaaDoor
namespace Rows

/-- THE TIED CARD OF 'laws.FnExactReadNode'. -/
def fnExactReadNodeCard : Claim7 := { stood := { row := fnExactReadNodeRow, standIns := [], harness := (true, "109919cf120a256906d02559272b3326cc8b2eb18850bd76076c539e8aad4df7"), looks := true }, kinds := [], alts := [], laidByText := true, laidKinds := [.data, .data, .data, .sentinel, .sentinel], laidTests := true, laidLooks := .later }
def FnExactReadNodeCardSaid : Prop := Claim7.holds Tryd.pinned (.plain (OpenSpec.ofChange fnExactReadNodeSpec)) fnExactReadNodeCard

/-- THE TIED CARD OF 'laws.FnExactModelText'. -/
def fnExactModelTextCard : Claim7 := { stood := { row := fnExactModelTextRow, standIns := [], harness := (true, "109919cf120a256906d02559272b3326cc8b2eb18850bd76076c539e8aad4df7"), looks := true }, kinds := [], alts := [], laidByText := true, laidKinds := [.data, .data, .data], laidTests := true, laidLooks := .later }
def FnExactModelTextCardSaid : Prop := Claim7.holds Tryd.pinned (.plain (OpenSpec.ofChange fnExactModelTextSpec)) fnExactModelTextCard

/-- THE TIED CARD OF 'laws.FnNodeText'. -/
def fnNodeTextCard : Claim7 := { stood := { row := fnNodeTextRow, standIns := [], harness := (true, "109919cf120a256906d02559272b3326cc8b2eb18850bd76076c539e8aad4df7"), looks := true }, kinds := [], alts := [], laidByText := true, laidKinds := [.data, .data, .data, .sentinel, .sentinel], laidTests := true, laidLooks := .later }
def FnNodeTextCardSaid : Prop := Claim7.holds Tryd.pinned (.plain (OpenSpec.ofChange fnNodeTextSpec)) fnNodeTextCard

/-- THE TIED CARD OF 'laws.FnExactReadRows'. -/
def fnExactReadRowsCard : Claim7 := { stood := { row := fnExactReadRowsRow, standIns := [], harness := (true, "109919cf120a256906d02559272b3326cc8b2eb18850bd76076c539e8aad4df7"), looks := true }, kinds := [], alts := [], laidByText := true, laidKinds := [.data, .pinned], laidTests := true, laidLooks := .later }
def FnExactReadRowsCardSaid : Prop := Claim7.holds Tryd.pinned (.plain (OpenSpec.ofChange fnExactReadRowsSpec)) fnExactReadRowsCard

/-- THE TIED CARD OF 'laws.FnExactTreeText'. -/
def fnExactTreeTextCard : Claim7 := { stood := { row := fnExactTreeTextRow, standIns := [], harness := (true, "109919cf120a256906d02559272b3326cc8b2eb18850bd76076c539e8aad4df7"), looks := true }, kinds := [], alts := [], laidByText := true, laidKinds := [.data, .data, .data, .data, .pinned], laidTests := true, laidLooks := .later }
def FnExactTreeTextCardSaid : Prop := Claim7.holds Tryd.pinned (.plain (OpenSpec.ofChange fnExactTreeTextSpec)) fnExactTreeTextCard

/-- THE TIED CARD OF 'laws.FnTreeText'. -/
def fnTreeTextCard : Claim7 := { stood := { row := fnTreeTextRow, standIns := [], harness := (true, "109919cf120a256906d02559272b3326cc8b2eb18850bd76076c539e8aad4df7"), looks := true }, kinds := [], alts := [], laidByText := true, laidKinds := [.data, .data, .data, .data, .pinned], laidTests := true, laidLooks := .later }
def FnTreeTextCardSaid : Prop := Claim7.holds Tryd.pinned (.plain (OpenSpec.ofChange fnTreeTextSpec)) fnTreeTextCard

/-- THE SECOND FORM's CARD OF 'laws.FnExactReadNode'. -/
def fnExactReadNodeUptoCard : Claim7 := { stood := { row := fnExactReadNodeUptoRow, standIns := [], harness := (true, "109919cf120a256906d02559272b3326cc8b2eb18850bd76076c539e8aad4df7"), looks := true }, kinds := [], alts := [], laidByText := true, laidKinds := [.data, .data, .data, .sentinel, .sentinel], laidTests := true, laidLooks := .later }
def FnExactReadNodeUptoCardSaid : Prop := Claim7.holds Tryd.pinned (.plain (OpenSpec.upto fnExactReadNodeSpec)) fnExactReadNodeUptoCard

/-- THE SECOND FORM's CARD OF 'laws.FnExactModelText'. -/
def fnExactModelTextUptoCard : Claim7 := { stood := { row := fnExactModelTextUptoRow, standIns := [], harness := (true, "109919cf120a256906d02559272b3326cc8b2eb18850bd76076c539e8aad4df7"), looks := true }, kinds := [], alts := [], laidByText := true, laidKinds := [.data, .data, .data], laidTests := true, laidLooks := .later }
def FnExactModelTextUptoCardSaid : Prop := Claim7.holds Tryd.pinned (.plain (OpenSpec.upto fnExactModelTextSpec)) fnExactModelTextUptoCard

/-- THE SECOND FORM's CARD OF 'laws.FnNodeText'. -/
def fnNodeTextUptoCard : Claim7 := { stood := { row := fnNodeTextUptoRow, standIns := [], harness := (true, "109919cf120a256906d02559272b3326cc8b2eb18850bd76076c539e8aad4df7"), looks := true }, kinds := [], alts := [], laidByText := true, laidKinds := [.data, .data, .data, .sentinel, .sentinel], laidTests := true, laidLooks := .later }
def FnNodeTextUptoCardSaid : Prop := Claim7.holds Tryd.pinned (.plain (OpenSpec.upto fnNodeTextSpec)) fnNodeTextUptoCard

/-- THE SECOND FORM's CARD OF 'laws.FnExactReadRows'. -/
def fnExactReadRowsUptoCard : Claim7 := { stood := { row := fnExactReadRowsUptoRow, standIns := [], harness := (true, "109919cf120a256906d02559272b3326cc8b2eb18850bd76076c539e8aad4df7"), looks := true }, kinds := [], alts := [], laidByText := true, laidKinds := [.data, .pinned], laidTests := true, laidLooks := .later }
def FnExactReadRowsUptoCardSaid : Prop := Claim7.holds Tryd.pinned (.plain (OpenSpec.upto fnExactReadRowsSpec)) fnExactReadRowsUptoCard

/-- THE SECOND FORM's CARD OF 'laws.FnExactTreeText'. -/
def fnExactTreeTextUptoCard : Claim7 := { stood := { row := fnExactTreeTextUptoRow, standIns := [], harness := (true, "109919cf120a256906d02559272b3326cc8b2eb18850bd76076c539e8aad4df7"), looks := true }, kinds := [], alts := [], laidByText := true, laidKinds := [.data, .data, .data, .data, .pinned], laidTests := true, laidLooks := .later }
def FnExactTreeTextUptoCardSaid : Prop := Claim7.holds Tryd.pinned (.plain (OpenSpec.upto fnExactTreeTextSpec)) fnExactTreeTextUptoCard

/-- THE SECOND FORM's CARD OF 'laws.FnTreeText'. -/
def fnTreeTextUptoCard : Claim7 := { stood := { row := fnTreeTextUptoRow, standIns := [], harness := (true, "109919cf120a256906d02559272b3326cc8b2eb18850bd76076c539e8aad4df7"), looks := true }, kinds := [], alts := [], laidByText := true, laidKinds := [.data, .data, .data, .data, .pinned], laidTests := true, laidLooks := .later }
def FnTreeTextUptoCardSaid : Prop := Claim7.holds Tryd.pinned (.plain (OpenSpec.upto fnTreeTextSpec)) fnTreeTextUptoCard
end Rows
end Go.Proofs.YtcgmdpnhlkbpbaaDoor
