/-
  DERIVED. GIVEN WITH THE SEED: THE CARDS: each row of YtmkoanmmfcpmjaaDoorRows.lean that lists a variable, with what it lists TIED to the program's text (the seventh form; the later family's looks); each row that meets fmt, with fmt's text TOLD by the authors' own Lean function (tested against real Go, not proved from fmt's source: count such statements apart). THE CARD IS WHAT COUNTS. Prove the row's statement (the work); the ties are given (YtmkoanmmfcpmjaaDoorTie.lean); close each card by the builder's one call (the guide's Derived/Test/ToyasCard.lean, 'card_holds'). Laid BY PROGRAM, IN A SANDBOX (cutbox-door.mjs). By AI agents, Wed Nov 11 2026. No macro, syntax, notation, axiom, sorry.
-/
import Derived.Test.YtmkoanmmfcpmjaaDoorRows
import GoSem.ClaimSeven
namespace Go.Proofs.YtmkoanmmfcpmjaaDoor
namespace Rows

/-- THE TIED CARD OF 'laws.FnExactMadeBy'. -/
def fnExactMadeByCard : Claim7 := { stood := { row := fnExactMadeByRow, standIns := [], harness := (true, "37ee6ccb18b13fb95487923f17bc170d8602f6479681d33be7db2ee96fa9a45c"), looks := false }, kinds := [], alts := [], laidByText := true, laidKinds := [.data, .data], laidTests := true, laidLooks := .later }
def FnExactMadeByCardSaid : Prop := Claim7.holds Tryd.pinned (.plain (OpenSpec.ofChange fnExactMadeBySpec)) fnExactMadeByCard

/-- THE TIED CARD OF 'laws.FnMadeBy'. -/
def fnMadeByCard : Claim7 := { stood := { row := fnMadeByRow, standIns := [], harness := (true, "37ee6ccb18b13fb95487923f17bc170d8602f6479681d33be7db2ee96fa9a45c"), looks := false }, kinds := [], alts := [], laidByText := true, laidKinds := [.data, .data], laidTests := true, laidLooks := .later }
def FnMadeByCardSaid : Prop := Claim7.holds Tryd.pinned (.plain (OpenSpec.ofChange fnMadeBySpec)) fnMadeByCard

/-- THE SECOND FORM's CARD OF 'laws.FnExactMadeBy'. -/
def fnExactMadeByUptoCard : Claim7 := { stood := { row := fnExactMadeByUptoRow, standIns := [], harness := (true, "37ee6ccb18b13fb95487923f17bc170d8602f6479681d33be7db2ee96fa9a45c"), looks := false }, kinds := [], alts := [], laidByText := true, laidKinds := [.data, .data], laidTests := true, laidLooks := .later }
def FnExactMadeByUptoCardSaid : Prop := Claim7.holds Tryd.pinned (.plain (OpenSpec.upto fnExactMadeBySpec)) fnExactMadeByUptoCard

/-- THE SECOND FORM's CARD OF 'laws.FnMadeBy'. -/
def fnMadeByUptoCard : Claim7 := { stood := { row := fnMadeByUptoRow, standIns := [], harness := (true, "37ee6ccb18b13fb95487923f17bc170d8602f6479681d33be7db2ee96fa9a45c"), looks := false }, kinds := [], alts := [], laidByText := true, laidKinds := [.data, .data], laidTests := true, laidLooks := .later }
def FnMadeByUptoCardSaid : Prop := Claim7.holds Tryd.pinned (.plain (OpenSpec.upto fnMadeBySpec)) fnMadeByUptoCard
end Rows
end Go.Proofs.YtmkoanmmfcpmjaaDoor
