/-
  No cell of these rows narrows 'for every input' (looked for: loops, veiled, ifaces, maps, wideKeys, modest, calm, conditions, laid).
  DERIVED. THE GIVEN ROWS OF THIS SEAT. 6 by the template 'for every input the law returns true; each argument reads behind the call as it read before'; 0 by the template 'total and deterministic' (their statements: YtdihmpclbgbgpaaTotals.lean).
  GIVEN WITH THE SEED: the statements are not yours to turn. If you find one false, say at which input.
  Laid BY PROGRAM, IN A SANDBOX (cutbox-rows.mjs): the forced cells as the released guide's own fill.sh prints them over the translation 4d8a2f23feca6a27… (all of the seat's roots in one cut). By AI agents, Wed Nov 11 2026. No macro, syntax, notation, axiom, sorry.
-/
import Derived.Test.YtdihmpclbgbgpaaChecked
import GoSem.Claim
import GoSem.ClaimJoined
import GoSem.ClaimMapViews
import Derived.JoinedTies
import Derived.KernelRfl
namespace Go.Proofs.Ytdihmpclbgbgpaa
/- THE CELL 'sum', in the pinned program and in every row, IS THE sha256 OF THE DUMP (.gsa) THAT YtdihmpclbgbgpaaProg.lean LOADS. Nothing in Lean hashes anything: it is a label: what it is worth is what the hold of that sum in a sandbox is worth. -/
noncomputable def Try.pinned : Pinned := { name := "ytdihmpclbgbgpaa", sum := "4d8a2f23feca6a27dd7562e30a9b4c09158caee57c5e5987ab9f78f6d857400c", checked := Try.checked }
namespace Rows
def none {H : Type} : Left H := { results := [], args := [] }

/-- 'laws.FnComputeGates': WHATEVER THE INPUT: true; the input reads as it did. -/
def fnComputeGatesSpec : ChangeSpec := { name := "fnComputeGates", fn := fun _ => fun
  | [d] => { results := [.lit (.bool true)], args := [d] }
  | _ => none }
def fnComputeGatesRow : OpenClaim := { program := "ytdihmpclbgbgpaa", sum := "4d8a2f23feca6a27dd7562e30a9b4c09158caee57c5e5987ab9f78f6d857400c", func := "loop.example/reversiblecircuits/laws.FnComputeGates", spec := "fnComputeGates", unfollowed := true, recurses := true, apart := false }
def FnComputeGatesSaid : Prop := fnComputeGatesRow.holds Try.pinned (OpenSpec.ofChange fnComputeGatesSpec)

/-- ITS FALSE NEIGHBOUR: 'it returns false'. Refute it at one input. -/
def fnComputeGatesWrong : ChangeSpec := { name := "fnComputeGates", fn := fun _ => fun
  | [d] => { results := [.lit (.bool false)], args := [d] }
  | _ => none }
def FnComputeGatesWrongFalsely : Prop := fnComputeGatesRow.holds Try.pinned (OpenSpec.ofChange fnComputeGatesWrong)

/-- 'laws.FnCleanGates': WHATEVER THE INPUT: true; the input reads as it did. -/
def fnCleanGatesSpec : ChangeSpec := { name := "fnCleanGates", fn := fun _ => fun
  | [d] => { results := [.lit (.bool true)], args := [d] }
  | _ => none }
def fnCleanGatesRow : OpenClaim := { program := "ytdihmpclbgbgpaa", sum := "4d8a2f23feca6a27dd7562e30a9b4c09158caee57c5e5987ab9f78f6d857400c", func := "loop.example/reversiblecircuits/laws.FnCleanGates", spec := "fnCleanGates", unfollowed := true, recurses := true, apart := false }
def FnCleanGatesSaid : Prop := fnCleanGatesRow.holds Try.pinned (OpenSpec.ofChange fnCleanGatesSpec)

/-- ITS FALSE NEIGHBOUR: 'it returns false'. Refute it at one input. -/
def fnCleanGatesWrong : ChangeSpec := { name := "fnCleanGates", fn := fun _ => fun
  | [d] => { results := [.lit (.bool false)], args := [d] }
  | _ => none }
def FnCleanGatesWrongFalsely : Prop := fnCleanGatesRow.holds Try.pinned (OpenSpec.ofChange fnCleanGatesWrong)

/-- 'laws.FnSameForm': WHATEVER THE INPUT: true; the input reads as it did. -/
def fnSameFormSpec : ChangeSpec := { name := "fnSameForm", fn := fun _ => fun
  | [d] => { results := [.lit (.bool true)], args := [d] }
  | _ => none }
def fnSameFormRow : OpenClaim := { program := "ytdihmpclbgbgpaa", sum := "4d8a2f23feca6a27dd7562e30a9b4c09158caee57c5e5987ab9f78f6d857400c", func := "loop.example/reversiblecircuits/laws.FnSameForm", spec := "fnSameForm", unfollowed := true, recurses := true, apart := false }
def FnSameFormSaid : Prop := fnSameFormRow.holds Try.pinned (OpenSpec.ofChange fnSameFormSpec)

/-- ITS FALSE NEIGHBOUR: 'it returns false'. Refute it at one input. -/
def fnSameFormWrong : ChangeSpec := { name := "fnSameForm", fn := fun _ => fun
  | [d] => { results := [.lit (.bool false)], args := [d] }
  | _ => none }
def FnSameFormWrongFalsely : Prop := fnSameFormRow.holds Try.pinned (OpenSpec.ofChange fnSameFormWrong)

/-- 'laws.FnFuncOf': WHATEVER THE INPUT: true; the input reads as it did. -/
def fnFuncOfSpec : ChangeSpec := { name := "fnFuncOf", fn := fun _ => fun
  | [d] => { results := [.lit (.bool true)], args := [d] }
  | _ => none }
def fnFuncOfRow : OpenClaim := { program := "ytdihmpclbgbgpaa", sum := "4d8a2f23feca6a27dd7562e30a9b4c09158caee57c5e5987ab9f78f6d857400c", func := "loop.example/reversiblecircuits/laws.FnFuncOf", spec := "fnFuncOf", unfollowed := true, recurses := true, apart := false }
def FnFuncOfSaid : Prop := fnFuncOfRow.holds Try.pinned (OpenSpec.ofChange fnFuncOfSpec)

/-- ITS FALSE NEIGHBOUR: 'it returns false'. Refute it at one input. -/
def fnFuncOfWrong : ChangeSpec := { name := "fnFuncOf", fn := fun _ => fun
  | [d] => { results := [.lit (.bool false)], args := [d] }
  | _ => none }
def FnFuncOfWrongFalsely : Prop := fnFuncOfRow.holds Try.pinned (OpenSpec.ofChange fnFuncOfWrong)

/-- 'laws.FnRename': WHATEVER THE INPUT: true; the input reads as it did. -/
def fnRenameSpec : ChangeSpec := { name := "fnRename", fn := fun _ => fun
  | [d] => { results := [.lit (.bool true)], args := [d] }
  | _ => none }
def fnRenameRow : OpenClaim := { program := "ytdihmpclbgbgpaa", sum := "4d8a2f23feca6a27dd7562e30a9b4c09158caee57c5e5987ab9f78f6d857400c", func := "loop.example/reversiblecircuits/laws.FnRename", spec := "fnRename", unfollowed := true, recurses := true, apart := false }
def FnRenameSaid : Prop := fnRenameRow.holds Try.pinned (OpenSpec.ofChange fnRenameSpec)

/-- ITS FALSE NEIGHBOUR: 'it returns false'. Refute it at one input. -/
def fnRenameWrong : ChangeSpec := { name := "fnRename", fn := fun _ => fun
  | [d] => { results := [.lit (.bool false)], args := [d] }
  | _ => none }
def FnRenameWrongFalsely : Prop := fnRenameRow.holds Try.pinned (OpenSpec.ofChange fnRenameWrong)

/-- 'laws.FnTableKeeps': WHATEVER THE INPUT: true; the input reads as it did. -/
def fnTableKeepsSpec : ChangeSpec := { name := "fnTableKeeps", fn := fun _ => fun
  | [d1, d2] => { results := [.lit (.bool true)], args := [d1, d2] }
  | _ => none }
def fnTableKeepsRow : OpenClaim := { program := "ytdihmpclbgbgpaa", sum := "4d8a2f23feca6a27dd7562e30a9b4c09158caee57c5e5987ab9f78f6d857400c", func := "loop.example/reversiblecircuits/laws.FnTableKeeps", spec := "fnTableKeeps", unfollowed := true, recurses := true, apart := false }
def FnTableKeepsSaid : Prop := fnTableKeepsRow.holds Try.pinned (OpenSpec.ofChange fnTableKeepsSpec)

/-- ITS FALSE NEIGHBOUR: 'it returns false'. Refute it at one input. -/
def fnTableKeepsWrong : ChangeSpec := { name := "fnTableKeeps", fn := fun _ => fun
  | [d1, d2] => { results := [.lit (.bool false)], args := [d1, d2] }
  | _ => none }
def FnTableKeepsWrongFalsely : Prop := fnTableKeepsRow.holds Try.pinned (OpenSpec.ofChange fnTableKeepsWrong)

/- THE SECOND FORM. 'bulk': how many values and letters a reading holds, each counted each time it is reached (what is shared counts as often as it is met; a slice's spare places count too). A statement '..UptoSaid' is the law's where the arguments, and the package variables that the reading takes, are together of bulk at most 1048576: NARROWER than '..Said'. Prove '..Said' where nothing that the law and all that it calls make is longer than what came in: it says more and counts as full. Else prove '..UptoSaid'. A law counts once. -/
mutual
def uptoBulk {H : Type} : DataW H → Nat
  | .lit (.string bytes) => bytes.length + 1
  | .lit _ => 1
  | .nil => 1
  | .ptr d => uptoBulk d + 1
  | .slice elems spare => uptoBulkAll elems + uptoBulkAll spare + 1
  | .agg parts => uptoBulkAll parts + 1
  | .iface _ d => uptoBulk d + 1
  | .map entries => uptoBulkEntries entries + 1
  | .held _ => 1
def uptoBulkAll {H : Type} : List (DataW H) → Nat
  | [] => 0
  | d :: r => uptoBulk d + uptoBulkAll r
def uptoBulkEntries {H : Type} : List (Lit × DataW H) → Nat
  | [] => 0
  | x :: r => uptoBulkEntry x + uptoBulkEntries r
def uptoBulkEntry {H : Type} : Lit × DataW H → Nat
  | (.string bytes, d) => bytes.length + uptoBulk d + 1
  | (_, d) => uptoBulk d + 1
 end
def uptoSmall : (H : Type) → List (DataW H) → Bool := fun _ ds => decide (uptoBulkAll ds ≤ 1048576)
def OpenSpec.upto (s : _root_.Go.ChangeSpec) : _root_.Go.OpenSpec := { _root_.Go.OpenSpec.ofChange s with cond := some uptoSmall }

/-- 'laws.FnComputeGates', WHERE WHAT IT READS IS OF BULK AT MOST 1048576: true; the input reads as it did. -/
def fnComputeGatesUptoRow : OpenClaim := { program := "ytdihmpclbgbgpaa", sum := "4d8a2f23feca6a27dd7562e30a9b4c09158caee57c5e5987ab9f78f6d857400c", func := "loop.example/reversiblecircuits/laws.FnComputeGates", spec := "fnComputeGates", unfollowed := true, recurses := true, apart := false, narrowed := true }
def FnComputeGatesUptoSaid : Prop := fnComputeGatesUptoRow.holds Try.pinned (OpenSpec.upto fnComputeGatesSpec)

/-- 'laws.FnCleanGates', WHERE WHAT IT READS IS OF BULK AT MOST 1048576: true; the input reads as it did. -/
def fnCleanGatesUptoRow : OpenClaim := { program := "ytdihmpclbgbgpaa", sum := "4d8a2f23feca6a27dd7562e30a9b4c09158caee57c5e5987ab9f78f6d857400c", func := "loop.example/reversiblecircuits/laws.FnCleanGates", spec := "fnCleanGates", unfollowed := true, recurses := true, apart := false, narrowed := true }
def FnCleanGatesUptoSaid : Prop := fnCleanGatesUptoRow.holds Try.pinned (OpenSpec.upto fnCleanGatesSpec)

/-- 'laws.FnSameForm', WHERE WHAT IT READS IS OF BULK AT MOST 1048576: true; the input reads as it did. -/
def fnSameFormUptoRow : OpenClaim := { program := "ytdihmpclbgbgpaa", sum := "4d8a2f23feca6a27dd7562e30a9b4c09158caee57c5e5987ab9f78f6d857400c", func := "loop.example/reversiblecircuits/laws.FnSameForm", spec := "fnSameForm", unfollowed := true, recurses := true, apart := false, narrowed := true }
def FnSameFormUptoSaid : Prop := fnSameFormUptoRow.holds Try.pinned (OpenSpec.upto fnSameFormSpec)

/-- 'laws.FnFuncOf', WHERE WHAT IT READS IS OF BULK AT MOST 1048576: true; the input reads as it did. -/
def fnFuncOfUptoRow : OpenClaim := { program := "ytdihmpclbgbgpaa", sum := "4d8a2f23feca6a27dd7562e30a9b4c09158caee57c5e5987ab9f78f6d857400c", func := "loop.example/reversiblecircuits/laws.FnFuncOf", spec := "fnFuncOf", unfollowed := true, recurses := true, apart := false, narrowed := true }
def FnFuncOfUptoSaid : Prop := fnFuncOfUptoRow.holds Try.pinned (OpenSpec.upto fnFuncOfSpec)

/-- 'laws.FnRename', WHERE WHAT IT READS IS OF BULK AT MOST 1048576: true; the input reads as it did. -/
def fnRenameUptoRow : OpenClaim := { program := "ytdihmpclbgbgpaa", sum := "4d8a2f23feca6a27dd7562e30a9b4c09158caee57c5e5987ab9f78f6d857400c", func := "loop.example/reversiblecircuits/laws.FnRename", spec := "fnRename", unfollowed := true, recurses := true, apart := false, narrowed := true }
def FnRenameUptoSaid : Prop := fnRenameUptoRow.holds Try.pinned (OpenSpec.upto fnRenameSpec)

/-- 'laws.FnTableKeeps', WHERE WHAT IT READS IS OF BULK AT MOST 1048576: true; the input reads as it did. -/
def fnTableKeepsUptoRow : OpenClaim := { program := "ytdihmpclbgbgpaa", sum := "4d8a2f23feca6a27dd7562e30a9b4c09158caee57c5e5987ab9f78f6d857400c", func := "loop.example/reversiblecircuits/laws.FnTableKeeps", spec := "fnTableKeeps", unfollowed := true, recurses := true, apart := false, narrowed := true }
def FnTableKeepsUptoSaid : Prop := fnTableKeepsUptoRow.holds Try.pinned (OpenSpec.upto fnTableKeepsSpec)

end Rows
end Go.Proofs.Ytdihmpclbgbgpaa
