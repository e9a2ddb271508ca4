/-
  DERIVED. GIVEN WITH THE SEED: THE CARDS: each row of YtfbpiafhgkhoiaaDoorRows.lean that lists a variable, with what it lists TIED to the program's text (the seventh form; the later family's looks); each row that meets fmt, with fmt's text TOLD by the authors' own Lean function (tested against real Go, not proved from fmt's source: count such statements apart). THE CARD IS WHAT COUNTS. Prove the row's statement (the work); the ties are given (YtfbpiafhgkhoiaaDoorTie.lean); close each card by the builder's one call (the guide's Derived/Test/ToyasCard.lean, 'card_holds'). Laid BY PROGRAM, IN A SANDBOX (cutbox-door.mjs). By AI agents, Wed Nov 11 2026. No macro, syntax, notation, axiom, sorry.
-/
import Derived.Test.YtfbpiafhgkhoiaaDoorRows
import GoSem.ClaimSeven
namespace Go.Proofs.YtfbpiafhgkhoiaaDoor
namespace Rows

/-- THE TIED CARD OF 'hammerpondlaw.RecordSays'. -/
def recordSaysCard : Claim7 := { stood := { row := recordSaysRow, standIns := [], harness := (true, "3f02cbb6c948b4011e0098ba6ca0baf8fe199323a1a2fdaff3d09c0c31ac2518"), looks := true }, kinds := [], alts := [], laidByText := true, laidKinds := [.data, .data, .data, .sentinel, .sentinel], laidTests := true, laidLooks := .later }
def RecordSaysCardSaid : Prop := Claim7.holds Tryd.pinned (.plain (OpenSpec.ofChange recordSaysSpec)) recordSaysCard

/-- THE TIED CARD OF 'hammerpondtop.TopRecord'. -/
def topRecordCard : Claim7 := { stood := { row := topRecordRow, standIns := [], harness := (true, "3f02cbb6c948b4011e0098ba6ca0baf8fe199323a1a2fdaff3d09c0c31ac2518"), looks := true }, kinds := [], alts := [], laidByText := true, laidKinds := [.data, .data, .data, .sentinel, .sentinel], laidTests := true, laidLooks := .later }
def TopRecordCardSaid : Prop := Claim7.holds Tryd.pinned (.plain (OpenSpec.ofChange topRecordSpec)) topRecordCard

/-- THE SECOND FORM's CARD OF 'hammerpondlaw.RecordSays'. -/
def recordSaysUptoCard : Claim7 := { stood := { row := recordSaysUptoRow, standIns := [], harness := (true, "3f02cbb6c948b4011e0098ba6ca0baf8fe199323a1a2fdaff3d09c0c31ac2518"), looks := true }, kinds := [], alts := [], laidByText := true, laidKinds := [.data, .data, .data, .sentinel, .sentinel], laidTests := true, laidLooks := .later }
def RecordSaysUptoCardSaid : Prop := Claim7.holds Tryd.pinned (.plain (OpenSpec.upto recordSaysSpec)) recordSaysUptoCard

/-- THE SECOND FORM's CARD OF 'hammerpondtop.TopRecord'. -/
def topRecordUptoCard : Claim7 := { stood := { row := topRecordUptoRow, standIns := [], harness := (true, "3f02cbb6c948b4011e0098ba6ca0baf8fe199323a1a2fdaff3d09c0c31ac2518"), looks := true }, kinds := [], alts := [], laidByText := true, laidKinds := [.data, .data, .data, .sentinel, .sentinel], laidTests := true, laidLooks := .later }
def TopRecordUptoCardSaid : Prop := Claim7.holds Tryd.pinned (.plain (OpenSpec.upto topRecordSpec)) topRecordUptoCard
end Rows
end Go.Proofs.YtfbpiafhgkhoiaaDoor
