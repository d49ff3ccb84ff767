/-
  DERIVED. GIVEN WITH THE SEED: THE CARDS: each row of YtgphlcdinejmdaaGreatDoorRows.lean that lists a variable, with what it lists TIED to the program's text (the seventh form; the later family's looks); each row that meets fmt, with fmt's text TOLD by the authors' own Lean function (tested against real Go, not proved from fmt's source: count such statements apart). THE CARD IS WHAT COUNTS. Prove the row's statement (the work); the ties are given (YtgphlcdinejmdaaGreatDoorTie.lean); close each card by the builder's one call (the guide's Derived/Test/ToyasCard.lean, 'card_holds'). Laid BY PROGRAM, IN A SANDBOX (cutbox-door.mjs). By AI agents, Wed Nov 11 2026. No macro, syntax, notation, axiom, sorry.
-/
import Derived.Test.YtgphlcdinejmdaaGreatDoorRows
import GoSem.ClaimSeven
namespace Go.Proofs.YtgphlcdinejmdaaGreatDoor
namespace Rows

/-- THE TIED CARD OF 'laws.FnDeedText'. -/
def fnDeedTextCard : Claim7 := { stood := { row := fnDeedTextRow, standIns := [], harness := (true, "e12f438069a1af2f76a601ebabeb9c6248dae53daa1a957a6e646ce8e12dde88"), looks := true }, kinds := [], alts := [], laidByText := true, laidKinds := [.data, .data, .data, .data, .sentinel, .sentinel, .pinned], laidTests := true, laidLooks := .later }
def FnDeedTextCardSaid : Prop := Claim7.holds Tryz.pinned (.plain (OpenSpec.ofChange fnDeedTextSpec)) fnDeedTextCard

/-- THE TIED CARD OF 'laws.FnReadDeed'. -/
def fnReadDeedCard : Claim7 := { stood := { row := fnReadDeedRow, standIns := [], harness := (true, "e12f438069a1af2f76a601ebabeb9c6248dae53daa1a957a6e646ce8e12dde88"), looks := true }, kinds := [], alts := [], laidByText := true, laidKinds := [.data, .data, .data, .data, .sentinel, .sentinel, .pinned], laidTests := true, laidLooks := .later }
def FnReadDeedCardSaid : Prop := Claim7.holds Tryz.pinned (.plain (OpenSpec.ofChange fnReadDeedSpec)) fnReadDeedCard

/-- THE TIED CARD OF 'laws.FnJournalText'. -/
def fnJournalTextCard : Claim7 := { stood := { row := fnJournalTextRow, standIns := [], harness := (true, "e12f438069a1af2f76a601ebabeb9c6248dae53daa1a957a6e646ce8e12dde88"), looks := true }, kinds := [], alts := [], laidByText := true, laidKinds := [.data, .data, .data, .data, .sentinel, .sentinel, .pinned], laidTests := true, laidLooks := .later }
def FnJournalTextCardSaid : Prop := Claim7.holds Tryz.pinned (.plain (OpenSpec.ofChange fnJournalTextSpec)) fnJournalTextCard

/-- THE SECOND FORM's CARD OF 'laws.FnDeedText'. -/
def fnDeedTextUptoCard : Claim7 := { stood := { row := fnDeedTextUptoRow, standIns := [], harness := (true, "e12f438069a1af2f76a601ebabeb9c6248dae53daa1a957a6e646ce8e12dde88"), looks := true }, kinds := [], alts := [], laidByText := true, laidKinds := [.data, .data, .data, .data, .sentinel, .sentinel, .pinned], laidTests := true, laidLooks := .later }
def FnDeedTextUptoCardSaid : Prop := Claim7.holds Tryz.pinned (.plain (OpenSpec.upto fnDeedTextSpec)) fnDeedTextUptoCard

/-- THE SECOND FORM's CARD OF 'laws.FnReadDeed'. -/
def fnReadDeedUptoCard : Claim7 := { stood := { row := fnReadDeedUptoRow, standIns := [], harness := (true, "e12f438069a1af2f76a601ebabeb9c6248dae53daa1a957a6e646ce8e12dde88"), looks := true }, kinds := [], alts := [], laidByText := true, laidKinds := [.data, .data, .data, .data, .sentinel, .sentinel, .pinned], laidTests := true, laidLooks := .later }
def FnReadDeedUptoCardSaid : Prop := Claim7.holds Tryz.pinned (.plain (OpenSpec.upto fnReadDeedSpec)) fnReadDeedUptoCard

/-- THE SECOND FORM's CARD OF 'laws.FnJournalText'. -/
def fnJournalTextUptoCard : Claim7 := { stood := { row := fnJournalTextUptoRow, standIns := [], harness := (true, "e12f438069a1af2f76a601ebabeb9c6248dae53daa1a957a6e646ce8e12dde88"), looks := true }, kinds := [], alts := [], laidByText := true, laidKinds := [.data, .data, .data, .data, .sentinel, .sentinel, .pinned], laidTests := true, laidLooks := .later }
def FnJournalTextUptoCardSaid : Prop := Claim7.holds Tryz.pinned (.plain (OpenSpec.upto fnJournalTextSpec)) fnJournalTextUptoCard
end Rows
end Go.Proofs.YtgphlcdinejmdaaGreatDoor
