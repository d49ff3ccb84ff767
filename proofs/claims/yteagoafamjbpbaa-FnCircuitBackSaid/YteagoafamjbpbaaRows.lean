/-
  No cell of these rows narrows 'for every input' (looked for: loops, veiled, ifaces, maps, wideKeys, modest, calm, conditions, laid).
  DERIVED. THE GIVEN ROWS OF THIS SEAT. 10 by the template 'for every input the law returns true; each argument reads behind the call as it read before'; 0 by the template 'total and deterministic' (their statements: YteagoafamjbpbaaTotals.lean).
  GIVEN WITH THE SEED: the statements are not yours to turn. If you find one false, say at which input.
  Laid BY PROGRAM, IN A SANDBOX (cutbox-rows.mjs): the forced cells as the released guide's own fill.sh prints them over the translation 8172e2744b965d0f… (all of the seat's roots in one cut). By AI agents, Wed Nov 11 2026. No macro, syntax, notation, axiom, sorry.
-/
import Derived.Test.YteagoafamjbpbaaChecked
import GoSem.Claim
import GoSem.ClaimJoined
import GoSem.ClaimMapViews
import Derived.JoinedTies
import Derived.KernelRfl
namespace Go.Proofs.Yteagoafamjbpbaa
/- THE CELL 'sum', in the pinned program and in every row, IS THE sha256 OF THE DUMP (.gsa) THAT YteagoafamjbpbaaProg.lean LOADS. Nothing in Lean hashes anything: it is a label: what it is worth is what the hold of that sum in a sandbox is worth. -/
noncomputable def Try.pinned : Pinned := { name := "yteagoafamjbpbaa", sum := "8172e2744b965d0f844a087d8cc870425fbb3d620136a55efafd3d0ab46a9e87", checked := Try.checked }
namespace Rows
def none {H : Type} : Left H := { results := [], args := [] }

/-- 'laws.FnBenchValid': WHATEVER THE INPUT: true; the input reads as it did. -/
def fnBenchValidSpec : ChangeSpec := { name := "fnBenchValid", fn := fun _ => fun
  | [d] => { results := [.lit (.bool true)], args := [d] }
  | _ => none }
def fnBenchValidRow : OpenClaim := { program := "yteagoafamjbpbaa", sum := "8172e2744b965d0f844a087d8cc870425fbb3d620136a55efafd3d0ab46a9e87", func := "loop.example/reversiblecircuits/laws.FnBenchValid", spec := "fnBenchValid", unfollowed := true, recurses := true, apart := false }
def FnBenchValidSaid : Prop := fnBenchValidRow.holds Try.pinned (OpenSpec.ofChange fnBenchValidSpec)

/-- ITS FALSE NEIGHBOUR: 'it returns false'. Refute it at one input. -/
def fnBenchValidWrong : ChangeSpec := { name := "fnBenchValid", fn := fun _ => fun
  | [d] => { results := [.lit (.bool false)], args := [d] }
  | _ => none }
def FnBenchValidWrongFalsely : Prop := fnBenchValidRow.holds Try.pinned (OpenSpec.ofChange fnBenchValidWrong)

/-- 'laws.FnBenchEnd': WHATEVER THE INPUT: true; the input reads as it did. -/
def fnBenchEndSpec : ChangeSpec := { name := "fnBenchEnd", fn := fun _ => fun
  | [d] => { results := [.lit (.bool true)], args := [d] }
  | _ => none }
def fnBenchEndRow : OpenClaim := { program := "yteagoafamjbpbaa", sum := "8172e2744b965d0f844a087d8cc870425fbb3d620136a55efafd3d0ab46a9e87", func := "loop.example/reversiblecircuits/laws.FnBenchEnd", spec := "fnBenchEnd", unfollowed := true, recurses := true, apart := false }
def FnBenchEndSaid : Prop := fnBenchEndRow.holds Try.pinned (OpenSpec.ofChange fnBenchEndSpec)

/-- ITS FALSE NEIGHBOUR: 'it returns false'. Refute it at one input. -/
def fnBenchEndWrong : ChangeSpec := { name := "fnBenchEnd", fn := fun _ => fun
  | [d] => { results := [.lit (.bool false)], args := [d] }
  | _ => none }
def FnBenchEndWrongFalsely : Prop := fnBenchEndRow.holds Try.pinned (OpenSpec.ofChange fnBenchEndWrong)

/-- 'laws.FnHomeDeeds': WHATEVER THE INPUT: true; the input reads as it did. -/
def fnHomeDeedsSpec : ChangeSpec := { name := "fnHomeDeeds", fn := fun _ => fun
  | [d] => { results := [.lit (.bool true)], args := [d] }
  | _ => none }
def fnHomeDeedsRow : OpenClaim := { program := "yteagoafamjbpbaa", sum := "8172e2744b965d0f844a087d8cc870425fbb3d620136a55efafd3d0ab46a9e87", func := "loop.example/reversiblecircuits/laws.FnHomeDeeds", spec := "fnHomeDeeds", unfollowed := true, recurses := true, apart := false }
def FnHomeDeedsSaid : Prop := fnHomeDeedsRow.holds Try.pinned (OpenSpec.ofChange fnHomeDeedsSpec)

/-- ITS FALSE NEIGHBOUR: 'it returns false'. Refute it at one input. -/
def fnHomeDeedsWrong : ChangeSpec := { name := "fnHomeDeeds", fn := fun _ => fun
  | [d] => { results := [.lit (.bool false)], args := [d] }
  | _ => none }
def FnHomeDeedsWrongFalsely : Prop := fnHomeDeedsRow.holds Try.pinned (OpenSpec.ofChange fnHomeDeedsWrong)

/-- 'laws.FnBenchDo': WHATEVER THE INPUT: true; the input reads as it did. -/
def fnBenchDoSpec : ChangeSpec := { name := "fnBenchDo", fn := fun _ => fun
  | [d] => { results := [.lit (.bool true)], args := [d] }
  | _ => none }
def fnBenchDoRow : OpenClaim := { program := "yteagoafamjbpbaa", sum := "8172e2744b965d0f844a087d8cc870425fbb3d620136a55efafd3d0ab46a9e87", func := "loop.example/reversiblecircuits/laws.FnBenchDo", spec := "fnBenchDo", unfollowed := true, recurses := true, apart := false }
def FnBenchDoSaid : Prop := fnBenchDoRow.holds Try.pinned (OpenSpec.ofChange fnBenchDoSpec)

/-- ITS FALSE NEIGHBOUR: 'it returns false'. Refute it at one input. -/
def fnBenchDoWrong : ChangeSpec := { name := "fnBenchDo", fn := fun _ => fun
  | [d] => { results := [.lit (.bool false)], args := [d] }
  | _ => none }
def FnBenchDoWrongFalsely : Prop := fnBenchDoRow.holds Try.pinned (OpenSpec.ofChange fnBenchDoWrong)

/-- 'laws.FnExactBenchDo': WHATEVER THE INPUT: true; the input reads as it did. -/
def fnExactBenchDoSpec : ChangeSpec := { name := "fnExactBenchDo", fn := fun _ => fun
  | [d1, d2] => { results := [.lit (.bool true)], args := [d1, d2] }
  | _ => none }
def fnExactBenchDoRow : OpenClaim := { program := "yteagoafamjbpbaa", sum := "8172e2744b965d0f844a087d8cc870425fbb3d620136a55efafd3d0ab46a9e87", func := "loop.example/reversiblecircuits/laws.FnExactBenchDo", spec := "fnExactBenchDo", unfollowed := true, recurses := true, apart := false }
def FnExactBenchDoSaid : Prop := fnExactBenchDoRow.holds Try.pinned (OpenSpec.ofChange fnExactBenchDoSpec)

/-- ITS FALSE NEIGHBOUR: 'it returns false'. Refute it at one input. -/
def fnExactBenchDoWrong : ChangeSpec := { name := "fnExactBenchDo", fn := fun _ => fun
  | [d1, d2] => { results := [.lit (.bool false)], args := [d1, d2] }
  | _ => none }
def FnExactBenchDoWrongFalsely : Prop := fnExactBenchDoRow.holds Try.pinned (OpenSpec.ofChange fnExactBenchDoWrong)

/-- 'laws.FnBenchRun': WHATEVER THE INPUT: true; the input reads as it did. -/
def fnBenchRunSpec : ChangeSpec := { name := "fnBenchRun", fn := fun _ => fun
  | [d] => { results := [.lit (.bool true)], args := [d] }
  | _ => none }
def fnBenchRunRow : OpenClaim := { program := "yteagoafamjbpbaa", sum := "8172e2744b965d0f844a087d8cc870425fbb3d620136a55efafd3d0ab46a9e87", func := "loop.example/reversiblecircuits/laws.FnBenchRun", spec := "fnBenchRun", unfollowed := true, recurses := true, apart := false }
def FnBenchRunSaid : Prop := fnBenchRunRow.holds Try.pinned (OpenSpec.ofChange fnBenchRunSpec)

/-- ITS FALSE NEIGHBOUR: 'it returns false'. Refute it at one input. -/
def fnBenchRunWrong : ChangeSpec := { name := "fnBenchRun", fn := fun _ => fun
  | [d] => { results := [.lit (.bool false)], args := [d] }
  | _ => none }
def FnBenchRunWrongFalsely : Prop := fnBenchRunRow.holds Try.pinned (OpenSpec.ofChange fnBenchRunWrong)

/-- 'laws.FnExactBenchRun': WHATEVER THE INPUT: true; the input reads as it did. -/
def fnExactBenchRunSpec : ChangeSpec := { name := "fnExactBenchRun", fn := fun _ => fun
  | [d1, d2] => { results := [.lit (.bool true)], args := [d1, d2] }
  | _ => none }
def fnExactBenchRunRow : OpenClaim := { program := "yteagoafamjbpbaa", sum := "8172e2744b965d0f844a087d8cc870425fbb3d620136a55efafd3d0ab46a9e87", func := "loop.example/reversiblecircuits/laws.FnExactBenchRun", spec := "fnExactBenchRun", unfollowed := true, recurses := true, apart := false }
def FnExactBenchRunSaid : Prop := fnExactBenchRunRow.holds Try.pinned (OpenSpec.ofChange fnExactBenchRunSpec)

/-- ITS FALSE NEIGHBOUR: 'it returns false'. Refute it at one input. -/
def fnExactBenchRunWrong : ChangeSpec := { name := "fnExactBenchRun", fn := fun _ => fun
  | [d1, d2] => { results := [.lit (.bool false)], args := [d1, d2] }
  | _ => none }
def FnExactBenchRunWrongFalsely : Prop := fnExactBenchRunRow.holds Try.pinned (OpenSpec.ofChange fnExactBenchRunWrong)

/-- 'laws.FnCircuitShort': WHATEVER THE INPUT: true; the input reads as it did. -/
def fnCircuitShortSpec : ChangeSpec := { name := "fnCircuitShort", fn := fun _ => fun
  | [d] => { results := [.lit (.bool true)], args := [d] }
  | _ => none }
def fnCircuitShortRow : OpenClaim := { program := "yteagoafamjbpbaa", sum := "8172e2744b965d0f844a087d8cc870425fbb3d620136a55efafd3d0ab46a9e87", func := "loop.example/reversiblecircuits/laws.FnCircuitShort", spec := "fnCircuitShort", unfollowed := true, recurses := true, apart := false }
def FnCircuitShortSaid : Prop := fnCircuitShortRow.holds Try.pinned (OpenSpec.ofChange fnCircuitShortSpec)

/-- ITS FALSE NEIGHBOUR: 'it returns false'. Refute it at one input. -/
def fnCircuitShortWrong : ChangeSpec := { name := "fnCircuitShort", fn := fun _ => fun
  | [d] => { results := [.lit (.bool false)], args := [d] }
  | _ => none }
def FnCircuitShortWrongFalsely : Prop := fnCircuitShortRow.holds Try.pinned (OpenSpec.ofChange fnCircuitShortWrong)

/-- 'laws.FnCircuitBack': WHATEVER THE INPUT: true; the input reads as it did. -/
def fnCircuitBackSpec : ChangeSpec := { name := "fnCircuitBack", fn := fun _ => fun
  | [d] => { results := [.lit (.bool true)], args := [d] }
  | _ => none }
def fnCircuitBackRow : OpenClaim := { program := "yteagoafamjbpbaa", sum := "8172e2744b965d0f844a087d8cc870425fbb3d620136a55efafd3d0ab46a9e87", func := "loop.example/reversiblecircuits/laws.FnCircuitBack", spec := "fnCircuitBack", unfollowed := true, recurses := true, apart := false }
def FnCircuitBackSaid : Prop := fnCircuitBackRow.holds Try.pinned (OpenSpec.ofChange fnCircuitBackSpec)

/-- ITS FALSE NEIGHBOUR: 'it returns false'. Refute it at one input. -/
def fnCircuitBackWrong : ChangeSpec := { name := "fnCircuitBack", fn := fun _ => fun
  | [d] => { results := [.lit (.bool false)], args := [d] }
  | _ => none }
def FnCircuitBackWrongFalsely : Prop := fnCircuitBackRow.holds Try.pinned (OpenSpec.ofChange fnCircuitBackWrong)

/-- 'laws.FnRename': WHATEVER THE INPUT: true; the input reads as it did. -/
def fnRenameSpec : ChangeSpec := { name := "fnRename", fn := fun _ => fun
  | [d] => { results := [.lit (.bool true)], args := [d] }
  | _ => none }
def fnRenameRow : OpenClaim := { program := "yteagoafamjbpbaa", sum := "8172e2744b965d0f844a087d8cc870425fbb3d620136a55efafd3d0ab46a9e87", func := "loop.example/reversiblecircuits/laws.FnRename", spec := "fnRename", unfollowed := true, recurses := true, apart := false }
def FnRenameSaid : Prop := fnRenameRow.holds Try.pinned (OpenSpec.ofChange fnRenameSpec)

/-- ITS FALSE NEIGHBOUR: 'it returns false'. Refute it at one input. -/
def fnRenameWrong : ChangeSpec := { name := "fnRename", fn := fun _ => fun
  | [d] => { results := [.lit (.bool false)], args := [d] }
  | _ => none }
def FnRenameWrongFalsely : Prop := fnRenameRow.holds Try.pinned (OpenSpec.ofChange fnRenameWrong)

/- THE SECOND FORM. 'bulk': how many values and letters a reading holds, each counted each time it is reached (what is shared counts as often as it is met; a slice's spare places count too). A statement '..UptoSaid' is the law's where the arguments, and the package variables that the reading takes, are together of bulk at most 1048576: NARROWER than '..Said'. Prove '..Said' where nothing that the law and all that it calls make is longer than what came in: it says more and counts as full. Else prove '..UptoSaid'. A law counts once. -/
mutual
def uptoBulk {H : Type} : DataW H → Nat
  | .lit (.string bytes) => bytes.length + 1
  | .lit _ => 1
  | .nil => 1
  | .ptr d => uptoBulk d + 1
  | .slice elems spare => uptoBulkAll elems + uptoBulkAll spare + 1
  | .agg parts => uptoBulkAll parts + 1
  | .iface _ d => uptoBulk d + 1
  | .map entries => uptoBulkEntries entries + 1
  | .held _ => 1
def uptoBulkAll {H : Type} : List (DataW H) → Nat
  | [] => 0
  | d :: r => uptoBulk d + uptoBulkAll r
def uptoBulkEntries {H : Type} : List (Lit × DataW H) → Nat
  | [] => 0
  | x :: r => uptoBulkEntry x + uptoBulkEntries r
def uptoBulkEntry {H : Type} : Lit × DataW H → Nat
  | (.string bytes, d) => bytes.length + uptoBulk d + 1
  | (_, d) => uptoBulk d + 1
 end
def uptoSmall : (H : Type) → List (DataW H) → Bool := fun _ ds => decide (uptoBulkAll ds ≤ 1048576)
def OpenSpec.upto (s : _root_.Go.ChangeSpec) : _root_.Go.OpenSpec := { _root_.Go.OpenSpec.ofChange s with cond := some uptoSmall }

/-- 'laws.FnBenchValid', WHERE WHAT IT READS IS OF BULK AT MOST 1048576: true; the input reads as it did. -/
def fnBenchValidUptoRow : OpenClaim := { program := "yteagoafamjbpbaa", sum := "8172e2744b965d0f844a087d8cc870425fbb3d620136a55efafd3d0ab46a9e87", func := "loop.example/reversiblecircuits/laws.FnBenchValid", spec := "fnBenchValid", unfollowed := true, recurses := true, apart := false, narrowed := true }
def FnBenchValidUptoSaid : Prop := fnBenchValidUptoRow.holds Try.pinned (OpenSpec.upto fnBenchValidSpec)

/-- 'laws.FnBenchEnd', WHERE WHAT IT READS IS OF BULK AT MOST 1048576: true; the input reads as it did. -/
def fnBenchEndUptoRow : OpenClaim := { program := "yteagoafamjbpbaa", sum := "8172e2744b965d0f844a087d8cc870425fbb3d620136a55efafd3d0ab46a9e87", func := "loop.example/reversiblecircuits/laws.FnBenchEnd", spec := "fnBenchEnd", unfollowed := true, recurses := true, apart := false, narrowed := true }
def FnBenchEndUptoSaid : Prop := fnBenchEndUptoRow.holds Try.pinned (OpenSpec.upto fnBenchEndSpec)

/-- 'laws.FnHomeDeeds', WHERE WHAT IT READS IS OF BULK AT MOST 1048576: true; the input reads as it did. -/
def fnHomeDeedsUptoRow : OpenClaim := { program := "yteagoafamjbpbaa", sum := "8172e2744b965d0f844a087d8cc870425fbb3d620136a55efafd3d0ab46a9e87", func := "loop.example/reversiblecircuits/laws.FnHomeDeeds", spec := "fnHomeDeeds", unfollowed := true, recurses := true, apart := false, narrowed := true }
def FnHomeDeedsUptoSaid : Prop := fnHomeDeedsUptoRow.holds Try.pinned (OpenSpec.upto fnHomeDeedsSpec)

/-- 'laws.FnBenchDo', WHERE WHAT IT READS IS OF BULK AT MOST 1048576: true; the input reads as it did. -/
def fnBenchDoUptoRow : OpenClaim := { program := "yteagoafamjbpbaa", sum := "8172e2744b965d0f844a087d8cc870425fbb3d620136a55efafd3d0ab46a9e87", func := "loop.example/reversiblecircuits/laws.FnBenchDo", spec := "fnBenchDo", unfollowed := true, recurses := true, apart := false, narrowed := true }
def FnBenchDoUptoSaid : Prop := fnBenchDoUptoRow.holds Try.pinned (OpenSpec.upto fnBenchDoSpec)

/-- 'laws.FnExactBenchDo', WHERE WHAT IT READS IS OF BULK AT MOST 1048576: true; the input reads as it did. -/
def fnExactBenchDoUptoRow : OpenClaim := { program := "yteagoafamjbpbaa", sum := "8172e2744b965d0f844a087d8cc870425fbb3d620136a55efafd3d0ab46a9e87", func := "loop.example/reversiblecircuits/laws.FnExactBenchDo", spec := "fnExactBenchDo", unfollowed := true, recurses := true, apart := false, narrowed := true }
def FnExactBenchDoUptoSaid : Prop := fnExactBenchDoUptoRow.holds Try.pinned (OpenSpec.upto fnExactBenchDoSpec)

/-- 'laws.FnBenchRun', WHERE WHAT IT READS IS OF BULK AT MOST 1048576: true; the input reads as it did. -/
def fnBenchRunUptoRow : OpenClaim := { program := "yteagoafamjbpbaa", sum := "8172e2744b965d0f844a087d8cc870425fbb3d620136a55efafd3d0ab46a9e87", func := "loop.example/reversiblecircuits/laws.FnBenchRun", spec := "fnBenchRun", unfollowed := true, recurses := true, apart := false, narrowed := true }
def FnBenchRunUptoSaid : Prop := fnBenchRunUptoRow.holds Try.pinned (OpenSpec.upto fnBenchRunSpec)

/-- 'laws.FnExactBenchRun', WHERE WHAT IT READS IS OF BULK AT MOST 1048576: true; the input reads as it did. -/
def fnExactBenchRunUptoRow : OpenClaim := { program := "yteagoafamjbpbaa", sum := "8172e2744b965d0f844a087d8cc870425fbb3d620136a55efafd3d0ab46a9e87", func := "loop.example/reversiblecircuits/laws.FnExactBenchRun", spec := "fnExactBenchRun", unfollowed := true, recurses := true, apart := false, narrowed := true }
def FnExactBenchRunUptoSaid : Prop := fnExactBenchRunUptoRow.holds Try.pinned (OpenSpec.upto fnExactBenchRunSpec)

/-- 'laws.FnCircuitShort', WHERE WHAT IT READS IS OF BULK AT MOST 1048576: true; the input reads as it did. -/
def fnCircuitShortUptoRow : OpenClaim := { program := "yteagoafamjbpbaa", sum := "8172e2744b965d0f844a087d8cc870425fbb3d620136a55efafd3d0ab46a9e87", func := "loop.example/reversiblecircuits/laws.FnCircuitShort", spec := "fnCircuitShort", unfollowed := true, recurses := true, apart := false, narrowed := true }
def FnCircuitShortUptoSaid : Prop := fnCircuitShortUptoRow.holds Try.pinned (OpenSpec.upto fnCircuitShortSpec)

/-- 'laws.FnCircuitBack', WHERE WHAT IT READS IS OF BULK AT MOST 1048576: true; the input reads as it did. -/
def fnCircuitBackUptoRow : OpenClaim := { program := "yteagoafamjbpbaa", sum := "8172e2744b965d0f844a087d8cc870425fbb3d620136a55efafd3d0ab46a9e87", func := "loop.example/reversiblecircuits/laws.FnCircuitBack", spec := "fnCircuitBack", unfollowed := true, recurses := true, apart := false, narrowed := true }
def FnCircuitBackUptoSaid : Prop := fnCircuitBackUptoRow.holds Try.pinned (OpenSpec.upto fnCircuitBackSpec)

/-- 'laws.FnRename', WHERE WHAT IT READS IS OF BULK AT MOST 1048576: true; the input reads as it did. -/
def fnRenameUptoRow : OpenClaim := { program := "yteagoafamjbpbaa", sum := "8172e2744b965d0f844a087d8cc870425fbb3d620136a55efafd3d0ab46a9e87", func := "loop.example/reversiblecircuits/laws.FnRename", spec := "fnRename", unfollowed := true, recurses := true, apart := false, narrowed := true }
def FnRenameUptoSaid : Prop := fnRenameUptoRow.holds Try.pinned (OpenSpec.upto fnRenameSpec)

end Rows
end Go.Proofs.Yteagoafamjbpbaa
