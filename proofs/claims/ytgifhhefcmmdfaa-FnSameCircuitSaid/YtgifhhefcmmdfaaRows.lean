/-
  No cell of these rows narrows 'for every input' (looked for: loops, veiled, ifaces, maps, wideKeys, modest, calm, conditions, laid).
  DERIVED. THE GIVEN ROWS OF THIS SEAT. 12 by the template 'for every input the law returns true; each argument reads behind the call as it read before'; 0 by the template 'total and deterministic' (their statements: YtgifhhefcmmdfaaTotals.lean).
  GIVEN WITH THE SEED: the statements are not yours to turn. If you find one false, say at which input.
  Laid BY PROGRAM, IN A SANDBOX (cutbox-rows.mjs): the forced cells as the released guide's own fill.sh prints them over the translation 6cdd40a5954e42c2… (all of the seat's roots in one cut). By AI agents, Wed Nov 11 2026. No macro, syntax, notation, axiom, sorry.
-/
import Derived.Test.YtgifhhefcmmdfaaChecked
import GoSem.Claim
import GoSem.ClaimJoined
import GoSem.ClaimMapViews
import Derived.JoinedTies
import Derived.KernelRfl
namespace Go.Proofs.Ytgifhhefcmmdfaa
/- THE CELL 'sum', in the pinned program and in every row, IS THE sha256 OF THE DUMP (.gsa) THAT YtgifhhefcmmdfaaProg.lean LOADS. Nothing in Lean hashes anything: it is a label: what it is worth is what the hold of that sum in a sandbox is worth. -/
noncomputable def Try.pinned : Pinned := { name := "ytgifhhefcmmdfaa", sum := "6cdd40a5954e42c29dbc270f856c2c8951f41c2cfa6a1cd2d22c4efb61d4ac36", checked := Try.checked }
namespace Rows
def none {H : Type} : Left H := { results := [], args := [] }

/-- 'laws.FnCircuitRun': WHATEVER THE INPUT: true; the input reads as it did. -/
def fnCircuitRunSpec : ChangeSpec := { name := "fnCircuitRun", fn := fun _ => fun
  | [d] => { results := [.lit (.bool true)], args := [d] }
  | _ => none }
def fnCircuitRunRow : OpenClaim := { program := "ytgifhhefcmmdfaa", sum := "6cdd40a5954e42c29dbc270f856c2c8951f41c2cfa6a1cd2d22c4efb61d4ac36", func := "loop.example/reversiblecircuits/laws.FnCircuitRun", spec := "fnCircuitRun", unfollowed := true, recurses := true, apart := false }
def FnCircuitRunSaid : Prop := fnCircuitRunRow.holds Try.pinned (OpenSpec.ofChange fnCircuitRunSpec)

/-- ITS FALSE NEIGHBOUR: 'it returns false'. Refute it at one input. -/
def fnCircuitRunWrong : ChangeSpec := { name := "fnCircuitRun", fn := fun _ => fun
  | [d] => { results := [.lit (.bool false)], args := [d] }
  | _ => none }
def FnCircuitRunWrongFalsely : Prop := fnCircuitRunRow.holds Try.pinned (OpenSpec.ofChange fnCircuitRunWrong)

/-- 'laws.FnSplitSwaps': WHATEVER THE INPUT: true; the input reads as it did. -/
def fnSplitSwapsSpec : ChangeSpec := { name := "fnSplitSwaps", fn := fun _ => fun
  | [d] => { results := [.lit (.bool true)], args := [d] }
  | _ => none }
def fnSplitSwapsRow : OpenClaim := { program := "ytgifhhefcmmdfaa", sum := "6cdd40a5954e42c29dbc270f856c2c8951f41c2cfa6a1cd2d22c4efb61d4ac36", func := "loop.example/reversiblecircuits/laws.FnSplitSwaps", spec := "fnSplitSwaps", unfollowed := true, recurses := true, apart := false }
def FnSplitSwapsSaid : Prop := fnSplitSwapsRow.holds Try.pinned (OpenSpec.ofChange fnSplitSwapsSpec)

/-- ITS FALSE NEIGHBOUR: 'it returns false'. Refute it at one input. -/
def fnSplitSwapsWrong : ChangeSpec := { name := "fnSplitSwaps", fn := fun _ => fun
  | [d] => { results := [.lit (.bool false)], args := [d] }
  | _ => none }
def FnSplitSwapsWrongFalsely : Prop := fnSplitSwapsRow.holds Try.pinned (OpenSpec.ofChange fnSplitSwapsWrong)

/-- 'laws.FnCircuitBack': WHATEVER THE INPUT: true; the input reads as it did. -/
def fnCircuitBackSpec : ChangeSpec := { name := "fnCircuitBack", fn := fun _ => fun
  | [d] => { results := [.lit (.bool true)], args := [d] }
  | _ => none }
def fnCircuitBackRow : OpenClaim := { program := "ytgifhhefcmmdfaa", sum := "6cdd40a5954e42c29dbc270f856c2c8951f41c2cfa6a1cd2d22c4efb61d4ac36", func := "loop.example/reversiblecircuits/laws.FnCircuitBack", spec := "fnCircuitBack", unfollowed := true, recurses := true, apart := false }
def FnCircuitBackSaid : Prop := fnCircuitBackRow.holds Try.pinned (OpenSpec.ofChange fnCircuitBackSpec)

/-- ITS FALSE NEIGHBOUR: 'it returns false'. Refute it at one input. -/
def fnCircuitBackWrong : ChangeSpec := { name := "fnCircuitBack", fn := fun _ => fun
  | [d] => { results := [.lit (.bool false)], args := [d] }
  | _ => none }
def FnCircuitBackWrongFalsely : Prop := fnCircuitBackRow.holds Try.pinned (OpenSpec.ofChange fnCircuitBackWrong)

/-- 'laws.FnCircuitTable': WHATEVER THE INPUT: true; the input reads as it did. -/
def fnCircuitTableSpec : ChangeSpec := { name := "fnCircuitTable", fn := fun _ => fun
  | [d] => { results := [.lit (.bool true)], args := [d] }
  | _ => none }
def fnCircuitTableRow : OpenClaim := { program := "ytgifhhefcmmdfaa", sum := "6cdd40a5954e42c29dbc270f856c2c8951f41c2cfa6a1cd2d22c4efb61d4ac36", func := "loop.example/reversiblecircuits/laws.FnCircuitTable", spec := "fnCircuitTable", unfollowed := true, recurses := true, apart := false }
def FnCircuitTableSaid : Prop := fnCircuitTableRow.holds Try.pinned (OpenSpec.ofChange fnCircuitTableSpec)

/-- ITS FALSE NEIGHBOUR: 'it returns false'. Refute it at one input. -/
def fnCircuitTableWrong : ChangeSpec := { name := "fnCircuitTable", fn := fun _ => fun
  | [d] => { results := [.lit (.bool false)], args := [d] }
  | _ => none }
def FnCircuitTableWrongFalsely : Prop := fnCircuitTableRow.holds Try.pinned (OpenSpec.ofChange fnCircuitTableWrong)

/-- 'laws.FnRename': WHATEVER THE INPUT: true; the input reads as it did. -/
def fnRenameSpec : ChangeSpec := { name := "fnRename", fn := fun _ => fun
  | [d] => { results := [.lit (.bool true)], args := [d] }
  | _ => none }
def fnRenameRow : OpenClaim := { program := "ytgifhhefcmmdfaa", sum := "6cdd40a5954e42c29dbc270f856c2c8951f41c2cfa6a1cd2d22c4efb61d4ac36", func := "loop.example/reversiblecircuits/laws.FnRename", spec := "fnRename", unfollowed := true, recurses := true, apart := false }
def FnRenameSaid : Prop := fnRenameRow.holds Try.pinned (OpenSpec.ofChange fnRenameSpec)

/-- ITS FALSE NEIGHBOUR: 'it returns false'. Refute it at one input. -/
def fnRenameWrong : ChangeSpec := { name := "fnRename", fn := fun _ => fun
  | [d] => { results := [.lit (.bool false)], args := [d] }
  | _ => none }
def FnRenameWrongFalsely : Prop := fnRenameRow.holds Try.pinned (OpenSpec.ofChange fnRenameWrong)

/-- 'laws.FnSameCircuit': WHATEVER THE INPUT: true; the input reads as it did. -/
def fnSameCircuitSpec : ChangeSpec := { name := "fnSameCircuit", fn := fun _ => fun
  | [d] => { results := [.lit (.bool true)], args := [d] }
  | _ => none }
def fnSameCircuitRow : OpenClaim := { program := "ytgifhhefcmmdfaa", sum := "6cdd40a5954e42c29dbc270f856c2c8951f41c2cfa6a1cd2d22c4efb61d4ac36", func := "loop.example/reversiblecircuits/laws.FnSameCircuit", spec := "fnSameCircuit", unfollowed := true, recurses := true, apart := false }
def FnSameCircuitSaid : Prop := fnSameCircuitRow.holds Try.pinned (OpenSpec.ofChange fnSameCircuitSpec)

/-- ITS FALSE NEIGHBOUR: 'it returns false'. Refute it at one input. -/
def fnSameCircuitWrong : ChangeSpec := { name := "fnSameCircuit", fn := fun _ => fun
  | [d] => { results := [.lit (.bool false)], args := [d] }
  | _ => none }
def FnSameCircuitWrongFalsely : Prop := fnSameCircuitRow.holds Try.pinned (OpenSpec.ofChange fnSameCircuitWrong)

/-- 'laws.FnChanges': WHATEVER THE INPUT: true; the input reads as it did. -/
def fnChangesSpec : ChangeSpec := { name := "fnChanges", fn := fun _ => fun
  | [d] => { results := [.lit (.bool true)], args := [d] }
  | _ => none }
def fnChangesRow : OpenClaim := { program := "ytgifhhefcmmdfaa", sum := "6cdd40a5954e42c29dbc270f856c2c8951f41c2cfa6a1cd2d22c4efb61d4ac36", func := "loop.example/reversiblecircuits/laws.FnChanges", spec := "fnChanges", recurses := true, apart := false }
def FnChangesSaid : Prop := fnChangesRow.holds Try.pinned (OpenSpec.ofChange fnChangesSpec)

/-- ITS FALSE NEIGHBOUR: 'it returns false'. Refute it at one input. -/
def fnChangesWrong : ChangeSpec := { name := "fnChanges", fn := fun _ => fun
  | [d] => { results := [.lit (.bool false)], args := [d] }
  | _ => none }
def FnChangesWrongFalsely : Prop := fnChangesRow.holds Try.pinned (OpenSpec.ofChange fnChangesWrong)

/-- 'laws.FnApart': WHATEVER THE INPUT: true; the input reads as it did. -/
def fnApartSpec : ChangeSpec := { name := "fnApart", fn := fun _ => fun
  | [d] => { results := [.lit (.bool true)], args := [d] }
  | _ => none }
def fnApartRow : OpenClaim := { program := "ytgifhhefcmmdfaa", sum := "6cdd40a5954e42c29dbc270f856c2c8951f41c2cfa6a1cd2d22c4efb61d4ac36", func := "loop.example/reversiblecircuits/laws.FnApart", spec := "fnApart", unfollowed := true, recurses := true, apart := false }
def FnApartSaid : Prop := fnApartRow.holds Try.pinned (OpenSpec.ofChange fnApartSpec)

/-- ITS FALSE NEIGHBOUR: 'it returns false'. Refute it at one input. -/
def fnApartWrong : ChangeSpec := { name := "fnApart", fn := fun _ => fun
  | [d] => { results := [.lit (.bool false)], args := [d] }
  | _ => none }
def FnApartWrongFalsely : Prop := fnApartRow.holds Try.pinned (OpenSpec.ofChange fnApartWrong)

/-- 'laws.FnUselessPair': WHATEVER THE INPUT: true; the input reads as it did. -/
def fnUselessPairSpec : ChangeSpec := { name := "fnUselessPair", fn := fun _ => fun
  | [d] => { results := [.lit (.bool true)], args := [d] }
  | _ => none }
def fnUselessPairRow : OpenClaim := { program := "ytgifhhefcmmdfaa", sum := "6cdd40a5954e42c29dbc270f856c2c8951f41c2cfa6a1cd2d22c4efb61d4ac36", func := "loop.example/reversiblecircuits/laws.FnUselessPair", spec := "fnUselessPair", unfollowed := true, recurses := true, apart := false }
def FnUselessPairSaid : Prop := fnUselessPairRow.holds Try.pinned (OpenSpec.ofChange fnUselessPairSpec)

/-- ITS FALSE NEIGHBOUR: 'it returns false'. Refute it at one input. -/
def fnUselessPairWrong : ChangeSpec := { name := "fnUselessPair", fn := fun _ => fun
  | [d] => { results := [.lit (.bool false)], args := [d] }
  | _ => none }
def FnUselessPairWrongFalsely : Prop := fnUselessPairRow.holds Try.pinned (OpenSpec.ofChange fnUselessPairWrong)

/-- 'laws.FnCircuitShort': WHATEVER THE INPUT: true; the input reads as it did. -/
def fnCircuitShortSpec : ChangeSpec := { name := "fnCircuitShort", fn := fun _ => fun
  | [d] => { results := [.lit (.bool true)], args := [d] }
  | _ => none }
def fnCircuitShortRow : OpenClaim := { program := "ytgifhhefcmmdfaa", sum := "6cdd40a5954e42c29dbc270f856c2c8951f41c2cfa6a1cd2d22c4efb61d4ac36", func := "loop.example/reversiblecircuits/laws.FnCircuitShort", spec := "fnCircuitShort", unfollowed := true, recurses := true, apart := false }
def FnCircuitShortSaid : Prop := fnCircuitShortRow.holds Try.pinned (OpenSpec.ofChange fnCircuitShortSpec)

/-- ITS FALSE NEIGHBOUR: 'it returns false'. Refute it at one input. -/
def fnCircuitShortWrong : ChangeSpec := { name := "fnCircuitShort", fn := fun _ => fun
  | [d] => { results := [.lit (.bool false)], args := [d] }
  | _ => none }
def FnCircuitShortWrongFalsely : Prop := fnCircuitShortRow.holds Try.pinned (OpenSpec.ofChange fnCircuitShortWrong)

/-- 'laws.FnBenchNew': WHATEVER THE INPUT: true; the input reads as it did. -/
def fnBenchNewSpec : ChangeSpec := { name := "fnBenchNew", fn := fun _ => fun
  | [d] => { results := [.lit (.bool true)], args := [d] }
  | _ => none }
def fnBenchNewRow : OpenClaim := { program := "ytgifhhefcmmdfaa", sum := "6cdd40a5954e42c29dbc270f856c2c8951f41c2cfa6a1cd2d22c4efb61d4ac36", func := "loop.example/reversiblecircuits/laws.FnBenchNew", spec := "fnBenchNew", unfollowed := true, recurses := true, apart := false }
def FnBenchNewSaid : Prop := fnBenchNewRow.holds Try.pinned (OpenSpec.ofChange fnBenchNewSpec)

/-- ITS FALSE NEIGHBOUR: 'it returns false'. Refute it at one input. -/
def fnBenchNewWrong : ChangeSpec := { name := "fnBenchNew", fn := fun _ => fun
  | [d] => { results := [.lit (.bool false)], args := [d] }
  | _ => none }
def FnBenchNewWrongFalsely : Prop := fnBenchNewRow.holds Try.pinned (OpenSpec.ofChange fnBenchNewWrong)

/-- 'laws.FnExactBenchValid': WHATEVER THE INPUT: true; the input reads as it did. -/
def fnExactBenchValidSpec : ChangeSpec := { name := "fnExactBenchValid", fn := fun _ => fun
  | [d] => { results := [.lit (.bool true)], args := [d] }
  | _ => none }
def fnExactBenchValidRow : OpenClaim := { program := "ytgifhhefcmmdfaa", sum := "6cdd40a5954e42c29dbc270f856c2c8951f41c2cfa6a1cd2d22c4efb61d4ac36", func := "loop.example/reversiblecircuits/laws.FnExactBenchValid", spec := "fnExactBenchValid", unfollowed := true, recurses := true, apart := false }
def FnExactBenchValidSaid : Prop := fnExactBenchValidRow.holds Try.pinned (OpenSpec.ofChange fnExactBenchValidSpec)

/-- ITS FALSE NEIGHBOUR: 'it returns false'. Refute it at one input. -/
def fnExactBenchValidWrong : ChangeSpec := { name := "fnExactBenchValid", fn := fun _ => fun
  | [d] => { results := [.lit (.bool false)], args := [d] }
  | _ => none }
def FnExactBenchValidWrongFalsely : Prop := fnExactBenchValidRow.holds Try.pinned (OpenSpec.ofChange fnExactBenchValidWrong)

/- THE SECOND FORM. 'bulk': how many values and letters a reading holds, each counted each time it is reached (what is shared counts as often as it is met; a slice's spare places count too). A statement '..UptoSaid' is the law's where the arguments, and the package variables that the reading takes, are together of bulk at most 1048576: NARROWER than '..Said'. Prove '..Said' where nothing that the law and all that it calls make is longer than what came in: it says more and counts as full. Else prove '..UptoSaid'. A law counts once. -/
mutual
def uptoBulk {H : Type} : DataW H → Nat
  | .lit (.string bytes) => bytes.length + 1
  | .lit _ => 1
  | .nil => 1
  | .ptr d => uptoBulk d + 1
  | .slice elems spare => uptoBulkAll elems + uptoBulkAll spare + 1
  | .agg parts => uptoBulkAll parts + 1
  | .iface _ d => uptoBulk d + 1
  | .map entries => uptoBulkEntries entries + 1
  | .held _ => 1
def uptoBulkAll {H : Type} : List (DataW H) → Nat
  | [] => 0
  | d :: r => uptoBulk d + uptoBulkAll r
def uptoBulkEntries {H : Type} : List (Lit × DataW H) → Nat
  | [] => 0
  | x :: r => uptoBulkEntry x + uptoBulkEntries r
def uptoBulkEntry {H : Type} : Lit × DataW H → Nat
  | (.string bytes, d) => bytes.length + uptoBulk d + 1
  | (_, d) => uptoBulk d + 1
 end
def uptoSmall : (H : Type) → List (DataW H) → Bool := fun _ ds => decide (uptoBulkAll ds ≤ 1048576)
def OpenSpec.upto (s : _root_.Go.ChangeSpec) : _root_.Go.OpenSpec := { _root_.Go.OpenSpec.ofChange s with cond := some uptoSmall }

/-- 'laws.FnCircuitRun', WHERE WHAT IT READS IS OF BULK AT MOST 1048576: true; the input reads as it did. -/
def fnCircuitRunUptoRow : OpenClaim := { program := "ytgifhhefcmmdfaa", sum := "6cdd40a5954e42c29dbc270f856c2c8951f41c2cfa6a1cd2d22c4efb61d4ac36", func := "loop.example/reversiblecircuits/laws.FnCircuitRun", spec := "fnCircuitRun", unfollowed := true, recurses := true, apart := false, narrowed := true }
def FnCircuitRunUptoSaid : Prop := fnCircuitRunUptoRow.holds Try.pinned (OpenSpec.upto fnCircuitRunSpec)

/-- 'laws.FnSplitSwaps', WHERE WHAT IT READS IS OF BULK AT MOST 1048576: true; the input reads as it did. -/
def fnSplitSwapsUptoRow : OpenClaim := { program := "ytgifhhefcmmdfaa", sum := "6cdd40a5954e42c29dbc270f856c2c8951f41c2cfa6a1cd2d22c4efb61d4ac36", func := "loop.example/reversiblecircuits/laws.FnSplitSwaps", spec := "fnSplitSwaps", unfollowed := true, recurses := true, apart := false, narrowed := true }
def FnSplitSwapsUptoSaid : Prop := fnSplitSwapsUptoRow.holds Try.pinned (OpenSpec.upto fnSplitSwapsSpec)

/-- 'laws.FnCircuitBack', WHERE WHAT IT READS IS OF BULK AT MOST 1048576: true; the input reads as it did. -/
def fnCircuitBackUptoRow : OpenClaim := { program := "ytgifhhefcmmdfaa", sum := "6cdd40a5954e42c29dbc270f856c2c8951f41c2cfa6a1cd2d22c4efb61d4ac36", func := "loop.example/reversiblecircuits/laws.FnCircuitBack", spec := "fnCircuitBack", unfollowed := true, recurses := true, apart := false, narrowed := true }
def FnCircuitBackUptoSaid : Prop := fnCircuitBackUptoRow.holds Try.pinned (OpenSpec.upto fnCircuitBackSpec)

/-- 'laws.FnCircuitTable', WHERE WHAT IT READS IS OF BULK AT MOST 1048576: true; the input reads as it did. -/
def fnCircuitTableUptoRow : OpenClaim := { program := "ytgifhhefcmmdfaa", sum := "6cdd40a5954e42c29dbc270f856c2c8951f41c2cfa6a1cd2d22c4efb61d4ac36", func := "loop.example/reversiblecircuits/laws.FnCircuitTable", spec := "fnCircuitTable", unfollowed := true, recurses := true, apart := false, narrowed := true }
def FnCircuitTableUptoSaid : Prop := fnCircuitTableUptoRow.holds Try.pinned (OpenSpec.upto fnCircuitTableSpec)

/-- 'laws.FnRename', WHERE WHAT IT READS IS OF BULK AT MOST 1048576: true; the input reads as it did. -/
def fnRenameUptoRow : OpenClaim := { program := "ytgifhhefcmmdfaa", sum := "6cdd40a5954e42c29dbc270f856c2c8951f41c2cfa6a1cd2d22c4efb61d4ac36", func := "loop.example/reversiblecircuits/laws.FnRename", spec := "fnRename", unfollowed := true, recurses := true, apart := false, narrowed := true }
def FnRenameUptoSaid : Prop := fnRenameUptoRow.holds Try.pinned (OpenSpec.upto fnRenameSpec)

/-- 'laws.FnSameCircuit', WHERE WHAT IT READS IS OF BULK AT MOST 1048576: true; the input reads as it did. -/
def fnSameCircuitUptoRow : OpenClaim := { program := "ytgifhhefcmmdfaa", sum := "6cdd40a5954e42c29dbc270f856c2c8951f41c2cfa6a1cd2d22c4efb61d4ac36", func := "loop.example/reversiblecircuits/laws.FnSameCircuit", spec := "fnSameCircuit", unfollowed := true, recurses := true, apart := false, narrowed := true }
def FnSameCircuitUptoSaid : Prop := fnSameCircuitUptoRow.holds Try.pinned (OpenSpec.upto fnSameCircuitSpec)

/-- 'laws.FnChanges', WHERE WHAT IT READS IS OF BULK AT MOST 1048576: true; the input reads as it did. -/
def fnChangesUptoRow : OpenClaim := { program := "ytgifhhefcmmdfaa", sum := "6cdd40a5954e42c29dbc270f856c2c8951f41c2cfa6a1cd2d22c4efb61d4ac36", func := "loop.example/reversiblecircuits/laws.FnChanges", spec := "fnChanges", recurses := true, apart := false, narrowed := true }
def FnChangesUptoSaid : Prop := fnChangesUptoRow.holds Try.pinned (OpenSpec.upto fnChangesSpec)

/-- 'laws.FnApart', WHERE WHAT IT READS IS OF BULK AT MOST 1048576: true; the input reads as it did. -/
def fnApartUptoRow : OpenClaim := { program := "ytgifhhefcmmdfaa", sum := "6cdd40a5954e42c29dbc270f856c2c8951f41c2cfa6a1cd2d22c4efb61d4ac36", func := "loop.example/reversiblecircuits/laws.FnApart", spec := "fnApart", unfollowed := true, recurses := true, apart := false, narrowed := true }
def FnApartUptoSaid : Prop := fnApartUptoRow.holds Try.pinned (OpenSpec.upto fnApartSpec)

/-- 'laws.FnUselessPair', WHERE WHAT IT READS IS OF BULK AT MOST 1048576: true; the input reads as it did. -/
def fnUselessPairUptoRow : OpenClaim := { program := "ytgifhhefcmmdfaa", sum := "6cdd40a5954e42c29dbc270f856c2c8951f41c2cfa6a1cd2d22c4efb61d4ac36", func := "loop.example/reversiblecircuits/laws.FnUselessPair", spec := "fnUselessPair", unfollowed := true, recurses := true, apart := false, narrowed := true }
def FnUselessPairUptoSaid : Prop := fnUselessPairUptoRow.holds Try.pinned (OpenSpec.upto fnUselessPairSpec)

/-- 'laws.FnCircuitShort', WHERE WHAT IT READS IS OF BULK AT MOST 1048576: true; the input reads as it did. -/
def fnCircuitShortUptoRow : OpenClaim := { program := "ytgifhhefcmmdfaa", sum := "6cdd40a5954e42c29dbc270f856c2c8951f41c2cfa6a1cd2d22c4efb61d4ac36", func := "loop.example/reversiblecircuits/laws.FnCircuitShort", spec := "fnCircuitShort", unfollowed := true, recurses := true, apart := false, narrowed := true }
def FnCircuitShortUptoSaid : Prop := fnCircuitShortUptoRow.holds Try.pinned (OpenSpec.upto fnCircuitShortSpec)

/-- 'laws.FnBenchNew', WHERE WHAT IT READS IS OF BULK AT MOST 1048576: true; the input reads as it did. -/
def fnBenchNewUptoRow : OpenClaim := { program := "ytgifhhefcmmdfaa", sum := "6cdd40a5954e42c29dbc270f856c2c8951f41c2cfa6a1cd2d22c4efb61d4ac36", func := "loop.example/reversiblecircuits/laws.FnBenchNew", spec := "fnBenchNew", unfollowed := true, recurses := true, apart := false, narrowed := true }
def FnBenchNewUptoSaid : Prop := fnBenchNewUptoRow.holds Try.pinned (OpenSpec.upto fnBenchNewSpec)

/-- 'laws.FnExactBenchValid', WHERE WHAT IT READS IS OF BULK AT MOST 1048576: true; the input reads as it did. -/
def fnExactBenchValidUptoRow : OpenClaim := { program := "ytgifhhefcmmdfaa", sum := "6cdd40a5954e42c29dbc270f856c2c8951f41c2cfa6a1cd2d22c4efb61d4ac36", func := "loop.example/reversiblecircuits/laws.FnExactBenchValid", spec := "fnExactBenchValid", unfollowed := true, recurses := true, apart := false, narrowed := true }
def FnExactBenchValidUptoSaid : Prop := fnExactBenchValidUptoRow.holds Try.pinned (OpenSpec.upto fnExactBenchValidSpec)

end Rows
end Go.Proofs.Ytgifhhefcmmdfaa
