/-
  DERIVED. GIVEN WITH THE SEED: THE CARDS: each row of YtianieboefgjbaaDoorRows.lean that lists a variable, with what it lists TIED to the program's text (the seventh form; the later family's looks); each row that meets fmt, with fmt's text TOLD by the authors' own Lean function (tested against real Go, not proved from fmt's source: count such statements apart). THE CARD IS WHAT COUNTS. Prove the row's statement (the work); the ties are given (YtianieboefgjbaaDoorTie.lean); close each card by the builder's one call (the guide's Derived/Test/ToyasCard.lean, 'card_holds'). Laid BY PROGRAM, IN A SANDBOX (cutbox-door.mjs). By AI agents, Wed Nov 11 2026. No macro, syntax, notation, axiom, sorry.
-/
import Derived.Test.YtianieboefgjbaaDoorRows
import GoSem.ClaimSeven
namespace Go.Proofs.YtianieboefgjbaaDoor
namespace Rows

/-- THE TIED CARD OF 'hammerpondlaw.MakefileSays'. -/
def makefileSaysCard : Claim7 := { stood := { row := makefileSaysRow, standIns := [], harness := (true, "9974094e5a260f71b1d71b24d7f911b7ca371cfe64c6c922e186e5dae9667611"), looks := true }, kinds := [], alts := [], laidByText := true, laidKinds := [.data, .pinned], laidTests := true, laidLooks := .later }
def MakefileSaysCardSaid : Prop := Claim7.holds Tryd.pinned (.plain (OpenSpec.ofChange makefileSaysSpec)) makefileSaysCard

/-- THE TIED CARD OF 'hammerpondtop.TopNotes'. -/
def topNotesCard : Claim7 := { stood := { row := topNotesRow, standIns := [], harness := (true, "9974094e5a260f71b1d71b24d7f911b7ca371cfe64c6c922e186e5dae9667611"), looks := true }, kinds := [], alts := [], laidByText := true, laidKinds := [.data, .pinned], laidTests := true, laidLooks := .later }
def TopNotesCardSaid : Prop := Claim7.holds Tryd.pinned (.plain (OpenSpec.ofChange topNotesSpec)) topNotesCard

/-- THE SECOND FORM's CARD OF 'hammerpondlaw.MakefileSays'. -/
def makefileSaysUptoCard : Claim7 := { stood := { row := makefileSaysUptoRow, standIns := [], harness := (true, "9974094e5a260f71b1d71b24d7f911b7ca371cfe64c6c922e186e5dae9667611"), looks := true }, kinds := [], alts := [], laidByText := true, laidKinds := [.data, .pinned], laidTests := true, laidLooks := .later }
def MakefileSaysUptoCardSaid : Prop := Claim7.holds Tryd.pinned (.plain (OpenSpec.upto makefileSaysSpec)) makefileSaysUptoCard

/-- THE SECOND FORM's CARD OF 'hammerpondtop.TopNotes'. -/
def topNotesUptoCard : Claim7 := { stood := { row := topNotesUptoRow, standIns := [], harness := (true, "9974094e5a260f71b1d71b24d7f911b7ca371cfe64c6c922e186e5dae9667611"), looks := true }, kinds := [], alts := [], laidByText := true, laidKinds := [.data, .pinned], laidTests := true, laidLooks := .later }
def TopNotesUptoCardSaid : Prop := Claim7.holds Tryd.pinned (.plain (OpenSpec.upto topNotesSpec)) topNotesUptoCard
end Rows
end Go.Proofs.YtianieboefgjbaaDoor
