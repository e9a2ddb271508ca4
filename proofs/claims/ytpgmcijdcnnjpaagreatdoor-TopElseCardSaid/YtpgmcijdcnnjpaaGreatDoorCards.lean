/-
  DERIVED. GIVEN WITH THE SEED: THE CARDS: each row of YtpgmcijdcnnjpaaGreatDoorRows.lean that lists a variable, with what it lists TIED to the program's text (the seventh form; the later family's looks); each row that meets fmt, with fmt's text TOLD by the authors' own Lean function (tested against real Go, not proved from fmt's source: count such statements apart). THE CARD IS WHAT COUNTS. Prove the row's statement (the work); the ties are given (YtpgmcijdcnnjpaaGreatDoorTie.lean); close each card by the builder's one call (the guide's Derived/Test/ToyasCard.lean, 'card_holds'). Laid BY PROGRAM, IN A SANDBOX (cutbox-door.mjs). By AI agents, Wed Nov 11 2026. No macro, syntax, notation, axiom, sorry.
-/
import Derived.Test.YtpgmcijdcnnjpaaGreatDoorRows
import GoSem.ClaimSeven
namespace Go.Proofs.YtpgmcijdcnnjpaaGreatDoor
namespace Rows

/-- THE TIED CARD OF 'hammerpondtop.TopTwice'. -/
def topTwiceCard : Claim7 := { stood := { row := topTwiceRow, standIns := [], harness := (true, "ffd68a14712d974b97a37936cf1983d5470571ba7685bd8d6514d25c40d93b73"), looks := true }, kinds := [], alts := [], laidByText := true, laidKinds := [.data, .data, .data, .data, .sentinel, .sentinel, .pinned], laidTests := true, laidLooks := .later }
def TopTwiceCardSaid : Prop := Claim7.holds Tryz.pinned (.plain (OpenSpec.ofChange topTwiceSpec)) topTwiceCard

/-- THE TIED CARD OF 'hammerpondtop.TopOnly'. -/
def topOnlyCard : Claim7 := { stood := { row := topOnlyRow, standIns := [], harness := (true, "ffd68a14712d974b97a37936cf1983d5470571ba7685bd8d6514d25c40d93b73"), looks := true }, kinds := [], alts := [], laidByText := true, laidKinds := [.data, .data, .data, .data, .sentinel, .sentinel, .pinned], laidTests := true, laidLooks := .later }
def TopOnlyCardSaid : Prop := Claim7.holds Tryz.pinned (.plain (OpenSpec.ofChange topOnlySpec)) topOnlyCard

/-- THE TIED CARD OF 'hammerpondtop.TopWhole'. -/
def topWholeCard : Claim7 := { stood := { row := topWholeRow, standIns := [], harness := (true, "ffd68a14712d974b97a37936cf1983d5470571ba7685bd8d6514d25c40d93b73"), looks := true }, kinds := [], alts := [], laidByText := true, laidKinds := [.data, .data, .data, .data, .sentinel, .sentinel, .pinned], laidTests := true, laidLooks := .later }
def TopWholeCardSaid : Prop := Claim7.holds Tryz.pinned (.plain (OpenSpec.ofChange topWholeSpec)) topWholeCard

/-- THE TIED CARD OF 'hammerpondtop.TopElse'. -/
def topElseCard : Claim7 := { stood := { row := topElseRow, standIns := [], harness := (true, "ffd68a14712d974b97a37936cf1983d5470571ba7685bd8d6514d25c40d93b73"), looks := true }, kinds := [], alts := [], laidByText := true, laidKinds := [.data, .data, .data, .data, .sentinel, .sentinel, .pinned], laidTests := true, laidLooks := .later }
def TopElseCardSaid : Prop := Claim7.holds Tryz.pinned (.plain (OpenSpec.ofChange topElseSpec)) topElseCard

/-- THE TIED CARD OF 'hammerpondtop.TopGoal'. -/
def topGoalCard : Claim7 := { stood := { row := topGoalRow, standIns := [], harness := (true, "ffd68a14712d974b97a37936cf1983d5470571ba7685bd8d6514d25c40d93b73"), looks := true }, kinds := [], alts := [], laidByText := true, laidKinds := [.data, .data, .data, .data, .sentinel, .sentinel, .pinned], laidTests := true, laidLooks := .later }
def TopGoalCardSaid : Prop := Claim7.holds Tryz.pinned (.plain (OpenSpec.ofChange topGoalSpec)) topGoalCard

/-- THE TIED CARD OF 'hammerpondtop.TopScratch'. -/
def topScratchCard : Claim7 := { stood := { row := topScratchRow, standIns := [], harness := (true, "ffd68a14712d974b97a37936cf1983d5470571ba7685bd8d6514d25c40d93b73"), looks := true }, kinds := [], alts := [], laidByText := true, laidKinds := [.data, .data, .data, .data, .sentinel, .sentinel, .pinned], laidTests := true, laidLooks := .later }
def TopScratchCardSaid : Prop := Claim7.holds Tryz.pinned (.plain (OpenSpec.ofChange topScratchSpec)) topScratchCard

/-- THE TIED CARD OF 'hammerpondtop.TopOpen'. -/
def topOpenCard : Claim7 := { stood := { row := topOpenRow, standIns := [], harness := (true, "ffd68a14712d974b97a37936cf1983d5470571ba7685bd8d6514d25c40d93b73"), looks := true }, kinds := [], alts := [], laidByText := true, laidKinds := [.data, .data, .data, .data, .sentinel, .sentinel, .pinned], laidTests := true, laidLooks := .later }
def TopOpenCardSaid : Prop := Claim7.holds Tryz.pinned (.plain (OpenSpec.ofChange topOpenSpec)) topOpenCard

/-- THE TIED CARD OF 'hammerpondtop.TopPut'. -/
def topPutCard : Claim7 := { stood := { row := topPutRow, standIns := [], harness := (true, "ffd68a14712d974b97a37936cf1983d5470571ba7685bd8d6514d25c40d93b73"), looks := true }, kinds := [], alts := [], laidByText := true, laidKinds := [.data, .data, .data, .data, .sentinel, .sentinel, .pinned], laidTests := true, laidLooks := .later }
def TopPutCardSaid : Prop := Claim7.holds Tryz.pinned (.plain (OpenSpec.ofChange topPutSpec)) topPutCard

/-- THE TIED CARD OF 'hammerpondtop.TopFall'. -/
def topFallCard : Claim7 := { stood := { row := topFallRow, standIns := [], harness := (true, "ffd68a14712d974b97a37936cf1983d5470571ba7685bd8d6514d25c40d93b73"), looks := true }, kinds := [], alts := [], laidByText := true, laidKinds := [.data, .data, .data, .data, .sentinel, .sentinel, .pinned], laidTests := true, laidLooks := .later }
def TopFallCardSaid : Prop := Claim7.holds Tryz.pinned (.plain (OpenSpec.ofChange topFallSpec)) topFallCard

/-- THE SECOND FORM's CARD OF 'hammerpondtop.TopTwice'. -/
def topTwiceUptoCard : Claim7 := { stood := { row := topTwiceUptoRow, standIns := [], harness := (true, "ffd68a14712d974b97a37936cf1983d5470571ba7685bd8d6514d25c40d93b73"), looks := true }, kinds := [], alts := [], laidByText := true, laidKinds := [.data, .data, .data, .data, .sentinel, .sentinel, .pinned], laidTests := true, laidLooks := .later }
def TopTwiceUptoCardSaid : Prop := Claim7.holds Tryz.pinned (.plain (OpenSpec.upto topTwiceSpec)) topTwiceUptoCard

/-- THE SECOND FORM's CARD OF 'hammerpondtop.TopOnly'. -/
def topOnlyUptoCard : Claim7 := { stood := { row := topOnlyUptoRow, standIns := [], harness := (true, "ffd68a14712d974b97a37936cf1983d5470571ba7685bd8d6514d25c40d93b73"), looks := true }, kinds := [], alts := [], laidByText := true, laidKinds := [.data, .data, .data, .data, .sentinel, .sentinel, .pinned], laidTests := true, laidLooks := .later }
def TopOnlyUptoCardSaid : Prop := Claim7.holds Tryz.pinned (.plain (OpenSpec.upto topOnlySpec)) topOnlyUptoCard

/-- THE SECOND FORM's CARD OF 'hammerpondtop.TopWhole'. -/
def topWholeUptoCard : Claim7 := { stood := { row := topWholeUptoRow, standIns := [], harness := (true, "ffd68a14712d974b97a37936cf1983d5470571ba7685bd8d6514d25c40d93b73"), looks := true }, kinds := [], alts := [], laidByText := true, laidKinds := [.data, .data, .data, .data, .sentinel, .sentinel, .pinned], laidTests := true, laidLooks := .later }
def TopWholeUptoCardSaid : Prop := Claim7.holds Tryz.pinned (.plain (OpenSpec.upto topWholeSpec)) topWholeUptoCard

/-- THE SECOND FORM's CARD OF 'hammerpondtop.TopElse'. -/
def topElseUptoCard : Claim7 := { stood := { row := topElseUptoRow, standIns := [], harness := (true, "ffd68a14712d974b97a37936cf1983d5470571ba7685bd8d6514d25c40d93b73"), looks := true }, kinds := [], alts := [], laidByText := true, laidKinds := [.data, .data, .data, .data, .sentinel, .sentinel, .pinned], laidTests := true, laidLooks := .later }
def TopElseUptoCardSaid : Prop := Claim7.holds Tryz.pinned (.plain (OpenSpec.upto topElseSpec)) topElseUptoCard

/-- THE SECOND FORM's CARD OF 'hammerpondtop.TopGoal'. -/
def topGoalUptoCard : Claim7 := { stood := { row := topGoalUptoRow, standIns := [], harness := (true, "ffd68a14712d974b97a37936cf1983d5470571ba7685bd8d6514d25c40d93b73"), looks := true }, kinds := [], alts := [], laidByText := true, laidKinds := [.data, .data, .data, .data, .sentinel, .sentinel, .pinned], laidTests := true, laidLooks := .later }
def TopGoalUptoCardSaid : Prop := Claim7.holds Tryz.pinned (.plain (OpenSpec.upto topGoalSpec)) topGoalUptoCard

/-- THE SECOND FORM's CARD OF 'hammerpondtop.TopScratch'. -/
def topScratchUptoCard : Claim7 := { stood := { row := topScratchUptoRow, standIns := [], harness := (true, "ffd68a14712d974b97a37936cf1983d5470571ba7685bd8d6514d25c40d93b73"), looks := true }, kinds := [], alts := [], laidByText := true, laidKinds := [.data, .data, .data, .data, .sentinel, .sentinel, .pinned], laidTests := true, laidLooks := .later }
def TopScratchUptoCardSaid : Prop := Claim7.holds Tryz.pinned (.plain (OpenSpec.upto topScratchSpec)) topScratchUptoCard

/-- THE SECOND FORM's CARD OF 'hammerpondtop.TopOpen'. -/
def topOpenUptoCard : Claim7 := { stood := { row := topOpenUptoRow, standIns := [], harness := (true, "ffd68a14712d974b97a37936cf1983d5470571ba7685bd8d6514d25c40d93b73"), looks := true }, kinds := [], alts := [], laidByText := true, laidKinds := [.data, .data, .data, .data, .sentinel, .sentinel, .pinned], laidTests := true, laidLooks := .later }
def TopOpenUptoCardSaid : Prop := Claim7.holds Tryz.pinned (.plain (OpenSpec.upto topOpenSpec)) topOpenUptoCard

/-- THE SECOND FORM's CARD OF 'hammerpondtop.TopPut'. -/
def topPutUptoCard : Claim7 := { stood := { row := topPutUptoRow, standIns := [], harness := (true, "ffd68a14712d974b97a37936cf1983d5470571ba7685bd8d6514d25c40d93b73"), looks := true }, kinds := [], alts := [], laidByText := true, laidKinds := [.data, .data, .data, .data, .sentinel, .sentinel, .pinned], laidTests := true, laidLooks := .later }
def TopPutUptoCardSaid : Prop := Claim7.holds Tryz.pinned (.plain (OpenSpec.upto topPutSpec)) topPutUptoCard

/-- THE SECOND FORM's CARD OF 'hammerpondtop.TopFall'. -/
def topFallUptoCard : Claim7 := { stood := { row := topFallUptoRow, standIns := [], harness := (true, "ffd68a14712d974b97a37936cf1983d5470571ba7685bd8d6514d25c40d93b73"), looks := true }, kinds := [], alts := [], laidByText := true, laidKinds := [.data, .data, .data, .data, .sentinel, .sentinel, .pinned], laidTests := true, laidLooks := .later }
def TopFallUptoCardSaid : Prop := Claim7.holds Tryz.pinned (.plain (OpenSpec.upto topFallSpec)) topFallUptoCard
end Rows
end Go.Proofs.YtpgmcijdcnnjpaaGreatDoor
