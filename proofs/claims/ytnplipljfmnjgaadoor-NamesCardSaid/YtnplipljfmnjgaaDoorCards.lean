/-
  DERIVED. GIVEN WITH THE SEED: THE CARDS: each row of YtnplipljfmnjgaaDoorRows.lean that lists a variable, with what it lists TIED to the program's text (the seventh form; the later family's looks); each row that meets fmt, with fmt's text TOLD by the authors' own Lean function (tested against real Go, not proved from fmt's source: count such statements apart). THE CARD IS WHAT COUNTS. Prove the row's statement (the work); the ties are given (YtnplipljfmnjgaaDoorTie.lean); close each card by the builder's one call (the guide's Derived/Test/ToyasCard.lean, 'card_holds'). Laid BY PROGRAM, IN A SANDBOX (cutbox-door.mjs). By AI agents, Wed Nov 11 2026. No macro, syntax, notation, axiom, sorry.
-/
import Derived.Test.YtnplipljfmnjgaaDoorRows
import GoSem.ClaimSeven
namespace Go.Proofs.YtnplipljfmnjgaaDoor
namespace Rows

/-- THE TIED CARD OF 'hammerpondlaw.RecipeSays'. -/
def recipeSaysCard : Claim7 := { stood := { row := recipeSaysRow, standIns := [], harness := (true, "6c52e7a1a52716e8b2e50229c765e28333e9bfd3677e6d978336332b955093a2"), looks := true }, kinds := [], alts := [], laidByText := true, laidKinds := [.data, .pinned], laidTests := true, laidLooks := .later }
def RecipeSaysCardSaid : Prop := Claim7.holds Tryd.pinned (.plain (OpenSpec.ofChange recipeSaysSpec)) recipeSaysCard

/-- THE TIED CARD OF 'hammerpondtop.TopBarred'. -/
def topBarredCard : Claim7 := { stood := { row := topBarredRow, standIns := [], harness := (true, "6c52e7a1a52716e8b2e50229c765e28333e9bfd3677e6d978336332b955093a2"), looks := true }, kinds := [], alts := [], laidByText := true, laidKinds := [.data, .pinned], laidTests := true, laidLooks := .later }
def TopBarredCardSaid : Prop := Claim7.holds Tryd.pinned (.plain (OpenSpec.ofChange topBarredSpec)) topBarredCard

/-- THE TIED CARD OF 'hammerpondtop.TopTurn'. -/
def topTurnCard : Claim7 := { stood := { row := topTurnRow, standIns := [], harness := (true, "6c52e7a1a52716e8b2e50229c765e28333e9bfd3677e6d978336332b955093a2"), looks := true }, kinds := [], alts := [], laidByText := true, laidKinds := [.data, .pinned], laidTests := true, laidLooks := .later }
def TopTurnCardSaid : Prop := Claim7.holds Tryd.pinned (.plain (OpenSpec.ofChange topTurnSpec)) topTurnCard

/-- THE TIED CARD OF 'hammerpondlaw.Names'. -/
def namesCard : Claim7 := { stood := { row := namesRow, standIns := [], harness := (true, "6c52e7a1a52716e8b2e50229c765e28333e9bfd3677e6d978336332b955093a2"), looks := true }, kinds := [], alts := [], laidByText := true, laidKinds := [.data, .data, .data], laidTests := true, laidLooks := .later }
def NamesCardSaid : Prop := Claim7.holds Tryd.pinned (.plain (OpenSpec.ofChange namesSpec)) namesCard

/-- THE SECOND FORM's CARD OF 'hammerpondlaw.RecipeSays'. -/
def recipeSaysUptoCard : Claim7 := { stood := { row := recipeSaysUptoRow, standIns := [], harness := (true, "6c52e7a1a52716e8b2e50229c765e28333e9bfd3677e6d978336332b955093a2"), looks := true }, kinds := [], alts := [], laidByText := true, laidKinds := [.data, .pinned], laidTests := true, laidLooks := .later }
def RecipeSaysUptoCardSaid : Prop := Claim7.holds Tryd.pinned (.plain (OpenSpec.upto recipeSaysSpec)) recipeSaysUptoCard

/-- THE SECOND FORM's CARD OF 'hammerpondtop.TopBarred'. -/
def topBarredUptoCard : Claim7 := { stood := { row := topBarredUptoRow, standIns := [], harness := (true, "6c52e7a1a52716e8b2e50229c765e28333e9bfd3677e6d978336332b955093a2"), looks := true }, kinds := [], alts := [], laidByText := true, laidKinds := [.data, .pinned], laidTests := true, laidLooks := .later }
def TopBarredUptoCardSaid : Prop := Claim7.holds Tryd.pinned (.plain (OpenSpec.upto topBarredSpec)) topBarredUptoCard

/-- THE SECOND FORM's CARD OF 'hammerpondtop.TopTurn'. -/
def topTurnUptoCard : Claim7 := { stood := { row := topTurnUptoRow, standIns := [], harness := (true, "6c52e7a1a52716e8b2e50229c765e28333e9bfd3677e6d978336332b955093a2"), looks := true }, kinds := [], alts := [], laidByText := true, laidKinds := [.data, .pinned], laidTests := true, laidLooks := .later }
def TopTurnUptoCardSaid : Prop := Claim7.holds Tryd.pinned (.plain (OpenSpec.upto topTurnSpec)) topTurnUptoCard

/-- THE SECOND FORM's CARD OF 'hammerpondlaw.Names'. -/
def namesUptoCard : Claim7 := { stood := { row := namesUptoRow, standIns := [], harness := (true, "6c52e7a1a52716e8b2e50229c765e28333e9bfd3677e6d978336332b955093a2"), looks := true }, kinds := [], alts := [], laidByText := true, laidKinds := [.data, .data, .data], laidTests := true, laidLooks := .later }
def NamesUptoCardSaid : Prop := Claim7.holds Tryd.pinned (.plain (OpenSpec.upto namesSpec)) namesUptoCard
end Rows
end Go.Proofs.YtnplipljfmnjgaaDoor
