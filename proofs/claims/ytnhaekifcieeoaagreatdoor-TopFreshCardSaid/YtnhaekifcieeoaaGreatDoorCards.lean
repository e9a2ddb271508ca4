/-
  DERIVED. GIVEN WITH THE SEED: THE CARDS: each row of YtnhaekifcieeoaaGreatDoorRows.lean that lists a variable, with what it lists TIED to the program's text (the seventh form; the later family's looks); each row that meets fmt, with fmt's text TOLD by the authors' own Lean function (tested against real Go, not proved from fmt's source: count such statements apart). THE CARD IS WHAT COUNTS. Prove the row's statement (the work); the ties are given (YtnhaekifcieeoaaGreatDoorTie.lean); close each card by the builder's one call (the guide's Derived/Test/ToyasCard.lean, 'card_holds'). Laid BY PROGRAM, IN A SANDBOX (cutbox-door.mjs). By AI agents, Wed Nov 11 2026. No macro, syntax, notation, axiom, sorry.
-/
import Derived.Test.YtnhaekifcieeoaaGreatDoorRows
import GoSem.ClaimSeven
namespace Go.Proofs.YtnhaekifcieeoaaGreatDoor
namespace Rows

/-- THE TIED CARD OF 'hammerpondlaw.GraphSays'. -/
def graphSaysCard : Claim7 := { stood := { row := graphSaysRow, standIns := [], harness := (true, "eba75f78eb668ab6260cf64a61718b05c80118cb03dcfe77efacb699d2e6f94b"), looks := true }, kinds := [], alts := [], laidByText := true, laidKinds := [.data, .pinned], laidTests := true, laidLooks := .later }
def GraphSaysCardSaid : Prop := Claim7.holds Tryz.pinned (.plain (OpenSpec.ofChange graphSaysSpec)) graphSaysCard

/-- THE TIED CARD OF 'hammerpondtop.TopOrder'. -/
def topOrderCard : Claim7 := { stood := { row := topOrderRow, standIns := [], harness := (true, "eba75f78eb668ab6260cf64a61718b05c80118cb03dcfe77efacb699d2e6f94b"), looks := true }, kinds := [], alts := [], laidByText := true, laidKinds := [.data, .pinned], laidTests := true, laidLooks := .later }
def TopOrderCardSaid : Prop := Claim7.holds Tryz.pinned (.plain (OpenSpec.ofChange topOrderSpec)) topOrderCard

/-- THE TIED CARD OF 'hammerpondtop.TopUnits'. -/
def topUnitsCard : Claim7 := { stood := { row := topUnitsRow, standIns := [], harness := (true, "eba75f78eb668ab6260cf64a61718b05c80118cb03dcfe77efacb699d2e6f94b"), looks := true }, kinds := [], alts := [], laidByText := true, laidKinds := [.data, .pinned], laidTests := true, laidLooks := .later }
def TopUnitsCardSaid : Prop := Claim7.holds Tryz.pinned (.plain (OpenSpec.ofChange topUnitsSpec)) topUnitsCard

/-- THE TIED CARD OF 'hammerpondlaw.BuildSays'. -/
def buildSaysCard : Claim7 := { stood := { row := buildSaysRow, standIns := [], harness := (true, "eba75f78eb668ab6260cf64a61718b05c80118cb03dcfe77efacb699d2e6f94b"), looks := true }, kinds := [], alts := [], laidByText := true, laidKinds := [.data, .data, .data, .data, .pinned], laidTests := true, laidLooks := .later }
def BuildSaysCardSaid : Prop := Claim7.holds Tryz.pinned (.plain (OpenSpec.ofChange buildSaysSpec)) buildSaysCard

/-- THE TIED CARD OF 'hammerpondtop.TopFresh'. -/
def topFreshCard : Claim7 := { stood := { row := topFreshRow, standIns := [], harness := (true, "eba75f78eb668ab6260cf64a61718b05c80118cb03dcfe77efacb699d2e6f94b"), looks := true }, kinds := [], alts := [], laidByText := true, laidKinds := [.data, .data, .data, .data, .pinned], laidTests := true, laidLooks := .later }
def TopFreshCardSaid : Prop := Claim7.holds Tryz.pinned (.plain (OpenSpec.ofChange topFreshSpec)) topFreshCard

/-- THE SECOND FORM's CARD OF 'hammerpondlaw.GraphSays'. -/
def graphSaysUptoCard : Claim7 := { stood := { row := graphSaysUptoRow, standIns := [], harness := (true, "eba75f78eb668ab6260cf64a61718b05c80118cb03dcfe77efacb699d2e6f94b"), looks := true }, kinds := [], alts := [], laidByText := true, laidKinds := [.data, .pinned], laidTests := true, laidLooks := .later }
def GraphSaysUptoCardSaid : Prop := Claim7.holds Tryz.pinned (.plain (OpenSpec.upto graphSaysSpec)) graphSaysUptoCard

/-- THE SECOND FORM's CARD OF 'hammerpondtop.TopOrder'. -/
def topOrderUptoCard : Claim7 := { stood := { row := topOrderUptoRow, standIns := [], harness := (true, "eba75f78eb668ab6260cf64a61718b05c80118cb03dcfe77efacb699d2e6f94b"), looks := true }, kinds := [], alts := [], laidByText := true, laidKinds := [.data, .pinned], laidTests := true, laidLooks := .later }
def TopOrderUptoCardSaid : Prop := Claim7.holds Tryz.pinned (.plain (OpenSpec.upto topOrderSpec)) topOrderUptoCard

/-- THE SECOND FORM's CARD OF 'hammerpondtop.TopUnits'. -/
def topUnitsUptoCard : Claim7 := { stood := { row := topUnitsUptoRow, standIns := [], harness := (true, "eba75f78eb668ab6260cf64a61718b05c80118cb03dcfe77efacb699d2e6f94b"), looks := true }, kinds := [], alts := [], laidByText := true, laidKinds := [.data, .pinned], laidTests := true, laidLooks := .later }
def TopUnitsUptoCardSaid : Prop := Claim7.holds Tryz.pinned (.plain (OpenSpec.upto topUnitsSpec)) topUnitsUptoCard

/-- THE SECOND FORM's CARD OF 'hammerpondlaw.BuildSays'. -/
def buildSaysUptoCard : Claim7 := { stood := { row := buildSaysUptoRow, standIns := [], harness := (true, "eba75f78eb668ab6260cf64a61718b05c80118cb03dcfe77efacb699d2e6f94b"), looks := true }, kinds := [], alts := [], laidByText := true, laidKinds := [.data, .data, .data, .data, .pinned], laidTests := true, laidLooks := .later }
def BuildSaysUptoCardSaid : Prop := Claim7.holds Tryz.pinned (.plain (OpenSpec.upto buildSaysSpec)) buildSaysUptoCard

/-- THE SECOND FORM's CARD OF 'hammerpondtop.TopFresh'. -/
def topFreshUptoCard : Claim7 := { stood := { row := topFreshUptoRow, standIns := [], harness := (true, "eba75f78eb668ab6260cf64a61718b05c80118cb03dcfe77efacb699d2e6f94b"), looks := true }, kinds := [], alts := [], laidByText := true, laidKinds := [.data, .data, .data, .data, .pinned], laidTests := true, laidLooks := .later }
def TopFreshUptoCardSaid : Prop := Claim7.holds Tryz.pinned (.plain (OpenSpec.upto topFreshSpec)) topFreshUptoCard
end Rows
end Go.Proofs.YtnhaekifcieeoaaGreatDoor
