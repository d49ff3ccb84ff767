/-
  DERIVED. GIVEN WITH THE SEED: THE CARDS: each row of YtnenhckongccgaaGreatDoorRows.lean that lists a variable, with what it lists TIED to the program's text (the seventh form; the later family's looks); each row that meets fmt, with fmt's text TOLD by the authors' own Lean function (tested against real Go, not proved from fmt's source: count such statements apart). THE CARD IS WHAT COUNTS. Prove the row's statement (the work); the ties are given (YtnenhckongccgaaGreatDoorTie.lean); close each card by the builder's one call (the guide's Derived/Test/ToyasCard.lean, 'card_holds'). Laid BY PROGRAM, IN A SANDBOX (cutbox-door.mjs). By AI agents, Wed Nov 11 2026. No macro, syntax, notation, axiom, sorry.
-/
import Derived.Test.YtnenhckongccgaaGreatDoorRows
import GoSem.ClaimSeven
namespace Go.Proofs.YtnenhckongccgaaGreatDoor
namespace Rows

/-- THE TIED CARD OF 'laws.FnBenchLine'. -/
def fnBenchLineCard : Claim7 := { stood := { row := fnBenchLineRow, standIns := [], harness := (true, "cc890594c6edfd37df9942df48f03f33a40e890b9e1355c0ac28f903c80b2ad1"), looks := true }, kinds := [], alts := [], laidByText := true, laidKinds := [.data, .data, .data, .data, .sentinel, .sentinel, .pinned], laidTests := true, laidLooks := .later }
def FnBenchLineCardSaid : Prop := Claim7.holds Tryz.pinned (.plain (OpenSpec.ofChange fnBenchLineSpec)) fnBenchLineCard

/-- THE TIED CARD OF 'laws.FnBenchSay'. -/
def fnBenchSayCard : Claim7 := { stood := { row := fnBenchSayRow, standIns := [], harness := (true, "cc890594c6edfd37df9942df48f03f33a40e890b9e1355c0ac28f903c80b2ad1"), looks := true }, kinds := [], alts := [], laidByText := true, laidKinds := [.data, .data, .data, .data, .sentinel, .sentinel, .pinned], laidTests := true, laidLooks := .later }
def FnBenchSayCardSaid : Prop := Claim7.holds Tryz.pinned (.plain (OpenSpec.ofChange fnBenchSaySpec)) fnBenchSayCard

/-- THE TIED CARD OF 'laws.FnExactBenchSay'. -/
def fnExactBenchSayCard : Claim7 := { stood := { row := fnExactBenchSayRow, standIns := [], harness := (true, "cc890594c6edfd37df9942df48f03f33a40e890b9e1355c0ac28f903c80b2ad1"), looks := true }, kinds := [], alts := [], laidByText := true, laidKinds := [.data, .data, .data, .data, .sentinel, .sentinel, .pinned], laidTests := true, laidLooks := .later }
def FnExactBenchSayCardSaid : Prop := Claim7.holds Tryz.pinned (.plain (OpenSpec.ofChange fnExactBenchSaySpec)) fnExactBenchSayCard

/-- THE TIED CARD OF 'laws.FnReadJournal'. -/
def fnReadJournalCard : Claim7 := { stood := { row := fnReadJournalRow, standIns := [], harness := (true, "cc890594c6edfd37df9942df48f03f33a40e890b9e1355c0ac28f903c80b2ad1"), looks := true }, kinds := [], alts := [], laidByText := true, laidKinds := [.data, .data, .data, .data, .sentinel, .sentinel, .pinned], laidTests := true, laidLooks := .later }
def FnReadJournalCardSaid : Prop := Claim7.holds Tryz.pinned (.plain (OpenSpec.ofChange fnReadJournalSpec)) fnReadJournalCard

/-- THE TIED CARD OF 'laws.FnExactBenchLine'. -/
def fnExactBenchLineCard : Claim7 := { stood := { row := fnExactBenchLineRow, standIns := [], harness := (true, "cc890594c6edfd37df9942df48f03f33a40e890b9e1355c0ac28f903c80b2ad1"), looks := true }, kinds := [], alts := [], laidByText := true, laidKinds := [.data, .data, .data, .data, .sentinel, .sentinel, .pinned], laidTests := true, laidLooks := .later }
def FnExactBenchLineCardSaid : Prop := Claim7.holds Tryz.pinned (.plain (OpenSpec.ofChange fnExactBenchLineSpec)) fnExactBenchLineCard

/-- THE SECOND FORM's CARD OF 'laws.FnBenchLine'. -/
def fnBenchLineUptoCard : Claim7 := { stood := { row := fnBenchLineUptoRow, standIns := [], harness := (true, "cc890594c6edfd37df9942df48f03f33a40e890b9e1355c0ac28f903c80b2ad1"), looks := true }, kinds := [], alts := [], laidByText := true, laidKinds := [.data, .data, .data, .data, .sentinel, .sentinel, .pinned], laidTests := true, laidLooks := .later }
def FnBenchLineUptoCardSaid : Prop := Claim7.holds Tryz.pinned (.plain (OpenSpec.upto fnBenchLineSpec)) fnBenchLineUptoCard

/-- THE SECOND FORM's CARD OF 'laws.FnBenchSay'. -/
def fnBenchSayUptoCard : Claim7 := { stood := { row := fnBenchSayUptoRow, standIns := [], harness := (true, "cc890594c6edfd37df9942df48f03f33a40e890b9e1355c0ac28f903c80b2ad1"), looks := true }, kinds := [], alts := [], laidByText := true, laidKinds := [.data, .data, .data, .data, .sentinel, .sentinel, .pinned], laidTests := true, laidLooks := .later }
def FnBenchSayUptoCardSaid : Prop := Claim7.holds Tryz.pinned (.plain (OpenSpec.upto fnBenchSaySpec)) fnBenchSayUptoCard

/-- THE SECOND FORM's CARD OF 'laws.FnExactBenchSay'. -/
def fnExactBenchSayUptoCard : Claim7 := { stood := { row := fnExactBenchSayUptoRow, standIns := [], harness := (true, "cc890594c6edfd37df9942df48f03f33a40e890b9e1355c0ac28f903c80b2ad1"), looks := true }, kinds := [], alts := [], laidByText := true, laidKinds := [.data, .data, .data, .data, .sentinel, .sentinel, .pinned], laidTests := true, laidLooks := .later }
def FnExactBenchSayUptoCardSaid : Prop := Claim7.holds Tryz.pinned (.plain (OpenSpec.upto fnExactBenchSaySpec)) fnExactBenchSayUptoCard

/-- THE SECOND FORM's CARD OF 'laws.FnReadJournal'. -/
def fnReadJournalUptoCard : Claim7 := { stood := { row := fnReadJournalUptoRow, standIns := [], harness := (true, "cc890594c6edfd37df9942df48f03f33a40e890b9e1355c0ac28f903c80b2ad1"), looks := true }, kinds := [], alts := [], laidByText := true, laidKinds := [.data, .data, .data, .data, .sentinel, .sentinel, .pinned], laidTests := true, laidLooks := .later }
def FnReadJournalUptoCardSaid : Prop := Claim7.holds Tryz.pinned (.plain (OpenSpec.upto fnReadJournalSpec)) fnReadJournalUptoCard

/-- THE SECOND FORM's CARD OF 'laws.FnExactBenchLine'. -/
def fnExactBenchLineUptoCard : Claim7 := { stood := { row := fnExactBenchLineUptoRow, standIns := [], harness := (true, "cc890594c6edfd37df9942df48f03f33a40e890b9e1355c0ac28f903c80b2ad1"), looks := true }, kinds := [], alts := [], laidByText := true, laidKinds := [.data, .data, .data, .data, .sentinel, .sentinel, .pinned], laidTests := true, laidLooks := .later }
def FnExactBenchLineUptoCardSaid : Prop := Claim7.holds Tryz.pinned (.plain (OpenSpec.upto fnExactBenchLineSpec)) fnExactBenchLineUptoCard
end Rows
end Go.Proofs.YtnenhckongccgaaGreatDoor
