/-
  DERIVED. GIVEN WITH THE SEED: THE CARDS: each row of YtjhdfkifpmmefaaDoorRows.lean that lists a variable, with what it lists TIED to the program's text (the seventh form; the later family's looks); each row that meets fmt, with fmt's text TOLD by the authors' own Lean function (tested against real Go, not proved from fmt's source: count such statements apart). THE CARD IS WHAT COUNTS. Prove the row's statement (the work); the ties are given (YtjhdfkifpmmefaaDoorTie.lean); close each card by the builder's one call (the guide's Derived/Test/ToyasCard.lean, 'card_holds'). Laid BY PROGRAM, IN A SANDBOX (cutbox-door.mjs). By AI agents, Wed Nov 11 2026. No macro, syntax, notation, axiom, sorry.
-/
import Derived.Test.YtjhdfkifpmmefaaDoorRows
import GoSem.ClaimSeven
namespace Go.Proofs.YtjhdfkifpmmefaaDoor
namespace Rows

/-- THE TIED CARD OF 'laws.FnExactLineText'. -/
def fnExactLineTextCard : Claim7 := { stood := { row := fnExactLineTextRow, standIns := [], harness := (true, "dd21a90ba9c65ba2bc0c87c3262ab1a9449c66e33209487bbbe25bc3c4edc7d1"), looks := true }, kinds := [], alts := [], laidByText := true, laidKinds := [.data, .data, .data], laidTests := true, laidLooks := .later }
def FnExactLineTextCardSaid : Prop := Claim7.holds Tryd.pinned (.plain (OpenSpec.ofChange fnExactLineTextSpec)) fnExactLineTextCard

/-- THE TIED CARD OF 'laws.FnLineText'. -/
def fnLineTextCard : Claim7 := { stood := { row := fnLineTextRow, standIns := [], harness := (true, "dd21a90ba9c65ba2bc0c87c3262ab1a9449c66e33209487bbbe25bc3c4edc7d1"), looks := true }, kinds := [], alts := [], laidByText := true, laidKinds := [.data, .data, .data, .data, .sentinel, .sentinel, .pinned], laidTests := true, laidLooks := .later }
def FnLineTextCardSaid : Prop := Claim7.holds Tryd.pinned (.plain (OpenSpec.ofChange fnLineTextSpec)) fnLineTextCard

/-- THE TIED CARD OF 'laws.FnExactReadLine'. -/
def fnExactReadLineCard : Claim7 := { stood := { row := fnExactReadLineRow, standIns := [], harness := (true, "dd21a90ba9c65ba2bc0c87c3262ab1a9449c66e33209487bbbe25bc3c4edc7d1"), looks := true }, kinds := [], alts := [], laidByText := true, laidKinds := [.data, .data, .data, .data, .sentinel, .sentinel, .pinned], laidTests := true, laidLooks := .later }
def FnExactReadLineCardSaid : Prop := Claim7.holds Tryd.pinned (.plain (OpenSpec.ofChange fnExactReadLineSpec)) fnExactReadLineCard

/-- THE TIED CARD OF 'laws.FnReadLine'. -/
def fnReadLineCard : Claim7 := { stood := { row := fnReadLineRow, standIns := [], harness := (true, "dd21a90ba9c65ba2bc0c87c3262ab1a9449c66e33209487bbbe25bc3c4edc7d1"), looks := true }, kinds := [], alts := [], laidByText := true, laidKinds := [.data, .data, .data, .data, .sentinel, .sentinel, .pinned], laidTests := true, laidLooks := .later }
def FnReadLineCardSaid : Prop := Claim7.holds Tryd.pinned (.plain (OpenSpec.ofChange fnReadLineSpec)) fnReadLineCard

/-- THE TIED CARD OF 'laws.FnFieldText'. -/
def fnFieldTextCard : Claim7 := { stood := { row := fnFieldTextRow, standIns := [], harness := (true, "dd21a90ba9c65ba2bc0c87c3262ab1a9449c66e33209487bbbe25bc3c4edc7d1"), looks := true }, kinds := [], alts := [], laidByText := true, laidKinds := [.data, .pinned], laidTests := true, laidLooks := .later }
def FnFieldTextCardSaid : Prop := Claim7.holds Tryd.pinned (.plain (OpenSpec.ofChange fnFieldTextSpec)) fnFieldTextCard

/-- THE TIED CARD OF 'laws.FnExactReadField'. -/
def fnExactReadFieldCard : Claim7 := { stood := { row := fnExactReadFieldRow, standIns := [], harness := (true, "dd21a90ba9c65ba2bc0c87c3262ab1a9449c66e33209487bbbe25bc3c4edc7d1"), looks := true }, kinds := [], alts := [], laidByText := true, laidKinds := [.data, .pinned], laidTests := true, laidLooks := .later }
def FnExactReadFieldCardSaid : Prop := Claim7.holds Tryd.pinned (.plain (OpenSpec.ofChange fnExactReadFieldSpec)) fnExactReadFieldCard

/-- THE TIED CARD OF 'laws.FnReadField'. -/
def fnReadFieldCard : Claim7 := { stood := { row := fnReadFieldRow, standIns := [], harness := (true, "dd21a90ba9c65ba2bc0c87c3262ab1a9449c66e33209487bbbe25bc3c4edc7d1"), looks := true }, kinds := [], alts := [], laidByText := true, laidKinds := [.data, .pinned], laidTests := true, laidLooks := .later }
def FnReadFieldCardSaid : Prop := Claim7.holds Tryd.pinned (.plain (OpenSpec.ofChange fnReadFieldSpec)) fnReadFieldCard

/-- THE SECOND FORM's CARD OF 'laws.FnExactLineText'. -/
def fnExactLineTextUptoCard : Claim7 := { stood := { row := fnExactLineTextUptoRow, standIns := [], harness := (true, "dd21a90ba9c65ba2bc0c87c3262ab1a9449c66e33209487bbbe25bc3c4edc7d1"), looks := true }, kinds := [], alts := [], laidByText := true, laidKinds := [.data, .data, .data], laidTests := true, laidLooks := .later }
def FnExactLineTextUptoCardSaid : Prop := Claim7.holds Tryd.pinned (.plain (OpenSpec.upto fnExactLineTextSpec)) fnExactLineTextUptoCard

/-- THE SECOND FORM's CARD OF 'laws.FnLineText'. -/
def fnLineTextUptoCard : Claim7 := { stood := { row := fnLineTextUptoRow, standIns := [], harness := (true, "dd21a90ba9c65ba2bc0c87c3262ab1a9449c66e33209487bbbe25bc3c4edc7d1"), looks := true }, kinds := [], alts := [], laidByText := true, laidKinds := [.data, .data, .data, .data, .sentinel, .sentinel, .pinned], laidTests := true, laidLooks := .later }
def FnLineTextUptoCardSaid : Prop := Claim7.holds Tryd.pinned (.plain (OpenSpec.upto fnLineTextSpec)) fnLineTextUptoCard

/-- THE SECOND FORM's CARD OF 'laws.FnExactReadLine'. -/
def fnExactReadLineUptoCard : Claim7 := { stood := { row := fnExactReadLineUptoRow, standIns := [], harness := (true, "dd21a90ba9c65ba2bc0c87c3262ab1a9449c66e33209487bbbe25bc3c4edc7d1"), looks := true }, kinds := [], alts := [], laidByText := true, laidKinds := [.data, .data, .data, .data, .sentinel, .sentinel, .pinned], laidTests := true, laidLooks := .later }
def FnExactReadLineUptoCardSaid : Prop := Claim7.holds Tryd.pinned (.plain (OpenSpec.upto fnExactReadLineSpec)) fnExactReadLineUptoCard

/-- THE SECOND FORM's CARD OF 'laws.FnReadLine'. -/
def fnReadLineUptoCard : Claim7 := { stood := { row := fnReadLineUptoRow, standIns := [], harness := (true, "dd21a90ba9c65ba2bc0c87c3262ab1a9449c66e33209487bbbe25bc3c4edc7d1"), looks := true }, kinds := [], alts := [], laidByText := true, laidKinds := [.data, .data, .data, .data, .sentinel, .sentinel, .pinned], laidTests := true, laidLooks := .later }
def FnReadLineUptoCardSaid : Prop := Claim7.holds Tryd.pinned (.plain (OpenSpec.upto fnReadLineSpec)) fnReadLineUptoCard

/-- THE SECOND FORM's CARD OF 'laws.FnFieldText'. -/
def fnFieldTextUptoCard : Claim7 := { stood := { row := fnFieldTextUptoRow, standIns := [], harness := (true, "dd21a90ba9c65ba2bc0c87c3262ab1a9449c66e33209487bbbe25bc3c4edc7d1"), looks := true }, kinds := [], alts := [], laidByText := true, laidKinds := [.data, .pinned], laidTests := true, laidLooks := .later }
def FnFieldTextUptoCardSaid : Prop := Claim7.holds Tryd.pinned (.plain (OpenSpec.upto fnFieldTextSpec)) fnFieldTextUptoCard

/-- THE SECOND FORM's CARD OF 'laws.FnExactReadField'. -/
def fnExactReadFieldUptoCard : Claim7 := { stood := { row := fnExactReadFieldUptoRow, standIns := [], harness := (true, "dd21a90ba9c65ba2bc0c87c3262ab1a9449c66e33209487bbbe25bc3c4edc7d1"), looks := true }, kinds := [], alts := [], laidByText := true, laidKinds := [.data, .pinned], laidTests := true, laidLooks := .later }
def FnExactReadFieldUptoCardSaid : Prop := Claim7.holds Tryd.pinned (.plain (OpenSpec.upto fnExactReadFieldSpec)) fnExactReadFieldUptoCard

/-- THE SECOND FORM's CARD OF 'laws.FnReadField'. -/
def fnReadFieldUptoCard : Claim7 := { stood := { row := fnReadFieldUptoRow, standIns := [], harness := (true, "dd21a90ba9c65ba2bc0c87c3262ab1a9449c66e33209487bbbe25bc3c4edc7d1"), looks := true }, kinds := [], alts := [], laidByText := true, laidKinds := [.data, .pinned], laidTests := true, laidLooks := .later }
def FnReadFieldUptoCardSaid : Prop := Claim7.holds Tryd.pinned (.plain (OpenSpec.upto fnReadFieldSpec)) fnReadFieldUptoCard
end Rows
end Go.Proofs.YtjhdfkifpmmefaaDoor
