/-
  DERIVED. GIVEN WITH THE SEED: THE CARDS: each row of YtfoobfelgbcknaaDoorRows.lean that lists a variable, with what it lists TIED to the program's text (the seventh form; the later family's looks); each row that meets fmt, with fmt's text TOLD by the authors' own Lean function (tested against real Go, not proved from fmt's source: count such statements apart). THE CARD IS WHAT COUNTS. Prove the row's statement (the work); the ties are given (YtfoobfelgbcknaaDoorTie.lean); close each card by the builder's one call (the guide's Derived/Test/ToyasCard.lean, 'card_holds'). Laid BY PROGRAM, IN A SANDBOX (cutbox-door.mjs). By AI agents, Wed Nov 11 2026. No macro, syntax, notation, axiom, sorry.
-/
import Derived.Test.YtfoobfelgbcknaaDoorRows
import GoSem.ClaimSeven
namespace Go.Proofs.YtfoobfelgbcknaaDoor
namespace Rows

/-- THE TIED CARD OF 'laws.FnFieldText'. -/
def fnFieldTextCard : Claim7 := { stood := { row := fnFieldTextRow, standIns := [], harness := (true, "f1e1b79e47c0ad3fc3de34e723d4fb26da775e5bde5932b502e7776b22421f2c"), looks := false }, kinds := [], alts := [], laidByText := true, laidKinds := [.data, .pinned], laidTests := true, laidLooks := .later }
def FnFieldTextCardSaid : Prop := Claim7.holds Tryd.pinned (.plain (OpenSpec.ofChange fnFieldTextSpec)) fnFieldTextCard

/-- THE TIED CARD OF 'laws.FnExactReadField'. -/
def fnExactReadFieldCard : Claim7 := { stood := { row := fnExactReadFieldRow, standIns := [], harness := (true, "f1e1b79e47c0ad3fc3de34e723d4fb26da775e5bde5932b502e7776b22421f2c"), looks := false }, kinds := [], alts := [], laidByText := true, laidKinds := [.data, .pinned], laidTests := true, laidLooks := .later }
def FnExactReadFieldCardSaid : Prop := Claim7.holds Tryd.pinned (.plain (OpenSpec.ofChange fnExactReadFieldSpec)) fnExactReadFieldCard

/-- THE TIED CARD OF 'laws.FnReadField'. -/
def fnReadFieldCard : Claim7 := { stood := { row := fnReadFieldRow, standIns := [], harness := (true, "f1e1b79e47c0ad3fc3de34e723d4fb26da775e5bde5932b502e7776b22421f2c"), looks := false }, kinds := [], alts := [], laidByText := true, laidKinds := [.data, .pinned], laidTests := true, laidLooks := .later }
def FnReadFieldCardSaid : Prop := Claim7.holds Tryd.pinned (.plain (OpenSpec.ofChange fnReadFieldSpec)) fnReadFieldCard

/-- THE SECOND FORM's CARD OF 'laws.FnFieldText'. -/
def fnFieldTextUptoCard : Claim7 := { stood := { row := fnFieldTextUptoRow, standIns := [], harness := (true, "f1e1b79e47c0ad3fc3de34e723d4fb26da775e5bde5932b502e7776b22421f2c"), looks := false }, kinds := [], alts := [], laidByText := true, laidKinds := [.data, .pinned], laidTests := true, laidLooks := .later }
def FnFieldTextUptoCardSaid : Prop := Claim7.holds Tryd.pinned (.plain (OpenSpec.upto fnFieldTextSpec)) fnFieldTextUptoCard

/-- THE SECOND FORM's CARD OF 'laws.FnExactReadField'. -/
def fnExactReadFieldUptoCard : Claim7 := { stood := { row := fnExactReadFieldUptoRow, standIns := [], harness := (true, "f1e1b79e47c0ad3fc3de34e723d4fb26da775e5bde5932b502e7776b22421f2c"), looks := false }, kinds := [], alts := [], laidByText := true, laidKinds := [.data, .pinned], laidTests := true, laidLooks := .later }
def FnExactReadFieldUptoCardSaid : Prop := Claim7.holds Tryd.pinned (.plain (OpenSpec.upto fnExactReadFieldSpec)) fnExactReadFieldUptoCard

/-- THE SECOND FORM's CARD OF 'laws.FnReadField'. -/
def fnReadFieldUptoCard : Claim7 := { stood := { row := fnReadFieldUptoRow, standIns := [], harness := (true, "f1e1b79e47c0ad3fc3de34e723d4fb26da775e5bde5932b502e7776b22421f2c"), looks := false }, kinds := [], alts := [], laidByText := true, laidKinds := [.data, .pinned], laidTests := true, laidLooks := .later }
def FnReadFieldUptoCardSaid : Prop := Claim7.holds Tryd.pinned (.plain (OpenSpec.upto fnReadFieldSpec)) fnReadFieldUptoCard
end Rows
end Go.Proofs.YtfoobfelgbcknaaDoor
