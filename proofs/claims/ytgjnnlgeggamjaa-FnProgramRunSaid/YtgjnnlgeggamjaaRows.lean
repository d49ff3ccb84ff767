/-
  No cell of these rows narrows 'for every input' (looked for: loops, veiled, ifaces, maps, wideKeys, modest, calm, conditions, laid).
  DERIVED. THE GIVEN ROWS OF THIS SEAT. 6 by the template 'for every input the law returns true; each argument reads behind the call as it read before'; 0 by the template 'total and deterministic' (their statements: YtgjnnlgeggamjaaTotals.lean).
  GIVEN WITH THE SEED: the statements are not yours to turn. If you find one false, say at which input.
  Laid BY PROGRAM, IN A SANDBOX (cutbox-rows.mjs): the forced cells as the released guide's own fill.sh prints them over the translation caf0fe2083e7f962… (all of the seat's roots in one cut). By AI agents, Wed Nov 11 2026. No macro, syntax, notation, axiom, sorry.
-/
import Derived.Test.YtgjnnlgeggamjaaChecked
import GoSem.Claim
import GoSem.ClaimJoined
import GoSem.ClaimMapViews
import Derived.JoinedTies
import Derived.KernelRfl
namespace Go.Proofs.Ytgjnnlgeggamjaa
/- THE CELL 'sum', in the pinned program and in every row, IS THE sha256 OF THE DUMP (.gsa) THAT YtgjnnlgeggamjaaProg.lean LOADS. Nothing in Lean hashes anything: it is a label: what it is worth is what the hold of that sum in a sandbox is worth. -/
noncomputable def Try.pinned : Pinned := { name := "ytgjnnlgeggamjaa", sum := "caf0fe2083e7f962f7a1abf9a108ebd5bfcf443e70d637ba4aa8f5d79227e8ef", checked := Try.checked }
namespace Rows
def none {H : Type} : Left H := { results := [], args := [] }

/-- 'laws.FnExactProgramBack': WHATEVER THE INPUT: true; the input reads as it did. -/
def fnExactProgramBackSpec : ChangeSpec := { name := "fnExactProgramBack", fn := fun _ => fun
  | [d] => { results := [.lit (.bool true)], args := [d] }
  | _ => none }
def fnExactProgramBackRow : OpenClaim := { program := "ytgjnnlgeggamjaa", sum := "caf0fe2083e7f962f7a1abf9a108ebd5bfcf443e70d637ba4aa8f5d79227e8ef", func := "loop.example/reversiblecircuits/laws.FnExactProgramBack", spec := "fnExactProgramBack", unfollowed := true, recurses := true, apart := false }
def FnExactProgramBackSaid : Prop := fnExactProgramBackRow.holds Try.pinned (OpenSpec.ofChange fnExactProgramBackSpec)

/-- ITS FALSE NEIGHBOUR: 'it returns false'. Refute it at one input. -/
def fnExactProgramBackWrong : ChangeSpec := { name := "fnExactProgramBack", fn := fun _ => fun
  | [d] => { results := [.lit (.bool false)], args := [d] }
  | _ => none }
def FnExactProgramBackWrongFalsely : Prop := fnExactProgramBackRow.holds Try.pinned (OpenSpec.ofChange fnExactProgramBackWrong)

/-- 'laws.FnProgramBack': WHATEVER THE INPUT: true; the input reads as it did. -/
def fnProgramBackSpec : ChangeSpec := { name := "fnProgramBack", fn := fun _ => fun
  | [d] => { results := [.lit (.bool true)], args := [d] }
  | _ => none }
def fnProgramBackRow : OpenClaim := { program := "ytgjnnlgeggamjaa", sum := "caf0fe2083e7f962f7a1abf9a108ebd5bfcf443e70d637ba4aa8f5d79227e8ef", func := "loop.example/reversiblecircuits/laws.FnProgramBack", spec := "fnProgramBack", unfollowed := true, recurses := true, apart := false }
def FnProgramBackSaid : Prop := fnProgramBackRow.holds Try.pinned (OpenSpec.ofChange fnProgramBackSpec)

/-- ITS FALSE NEIGHBOUR: 'it returns false'. Refute it at one input. -/
def fnProgramBackWrong : ChangeSpec := { name := "fnProgramBack", fn := fun _ => fun
  | [d] => { results := [.lit (.bool false)], args := [d] }
  | _ => none }
def FnProgramBackWrongFalsely : Prop := fnProgramBackRow.holds Try.pinned (OpenSpec.ofChange fnProgramBackWrong)

/-- 'laws.FnExactProgramRun': WHATEVER THE INPUT: true; the input reads as it did. -/
def fnExactProgramRunSpec : ChangeSpec := { name := "fnExactProgramRun", fn := fun _ => fun
  | [d1, d2] => { results := [.lit (.bool true)], args := [d1, d2] }
  | _ => none }
def fnExactProgramRunRow : OpenClaim := { program := "ytgjnnlgeggamjaa", sum := "caf0fe2083e7f962f7a1abf9a108ebd5bfcf443e70d637ba4aa8f5d79227e8ef", func := "loop.example/reversiblecircuits/laws.FnExactProgramRun", spec := "fnExactProgramRun", unfollowed := true, recurses := true, apart := false }
def FnExactProgramRunSaid : Prop := fnExactProgramRunRow.holds Try.pinned (OpenSpec.ofChange fnExactProgramRunSpec)

/-- ITS FALSE NEIGHBOUR: 'it returns false'. Refute it at one input. -/
def fnExactProgramRunWrong : ChangeSpec := { name := "fnExactProgramRun", fn := fun _ => fun
  | [d1, d2] => { results := [.lit (.bool false)], args := [d1, d2] }
  | _ => none }
def FnExactProgramRunWrongFalsely : Prop := fnExactProgramRunRow.holds Try.pinned (OpenSpec.ofChange fnExactProgramRunWrong)

/-- 'laws.FnExactProgramSteps': WHATEVER THE INPUT: true; the input reads as it did. -/
def fnExactProgramStepsSpec : ChangeSpec := { name := "fnExactProgramSteps", fn := fun _ => fun
  | [d1, d2] => { results := [.lit (.bool true)], args := [d1, d2] }
  | _ => none }
def fnExactProgramStepsRow : OpenClaim := { program := "ytgjnnlgeggamjaa", sum := "caf0fe2083e7f962f7a1abf9a108ebd5bfcf443e70d637ba4aa8f5d79227e8ef", func := "loop.example/reversiblecircuits/laws.FnExactProgramSteps", spec := "fnExactProgramSteps", unfollowed := true, recurses := true, apart := false }
def FnExactProgramStepsSaid : Prop := fnExactProgramStepsRow.holds Try.pinned (OpenSpec.ofChange fnExactProgramStepsSpec)

/-- ITS FALSE NEIGHBOUR: 'it returns false'. Refute it at one input. -/
def fnExactProgramStepsWrong : ChangeSpec := { name := "fnExactProgramSteps", fn := fun _ => fun
  | [d1, d2] => { results := [.lit (.bool false)], args := [d1, d2] }
  | _ => none }
def FnExactProgramStepsWrongFalsely : Prop := fnExactProgramStepsRow.holds Try.pinned (OpenSpec.ofChange fnExactProgramStepsWrong)

/-- 'laws.FnProgramRun': WHATEVER THE INPUT: true; the input reads as it did. -/
def fnProgramRunSpec : ChangeSpec := { name := "fnProgramRun", fn := fun _ => fun
  | [d] => { results := [.lit (.bool true)], args := [d] }
  | _ => none }
def fnProgramRunRow : OpenClaim := { program := "ytgjnnlgeggamjaa", sum := "caf0fe2083e7f962f7a1abf9a108ebd5bfcf443e70d637ba4aa8f5d79227e8ef", func := "loop.example/reversiblecircuits/laws.FnProgramRun", spec := "fnProgramRun", unfollowed := true, recurses := true, apart := false }
def FnProgramRunSaid : Prop := fnProgramRunRow.holds Try.pinned (OpenSpec.ofChange fnProgramRunSpec)

/-- ITS FALSE NEIGHBOUR: 'it returns false'. Refute it at one input. -/
def fnProgramRunWrong : ChangeSpec := { name := "fnProgramRun", fn := fun _ => fun
  | [d] => { results := [.lit (.bool false)], args := [d] }
  | _ => none }
def FnProgramRunWrongFalsely : Prop := fnProgramRunRow.holds Try.pinned (OpenSpec.ofChange fnProgramRunWrong)

/-- 'laws.FnProgramSteps': WHATEVER THE INPUT: true; the input reads as it did. -/
def fnProgramStepsSpec : ChangeSpec := { name := "fnProgramSteps", fn := fun _ => fun
  | [d] => { results := [.lit (.bool true)], args := [d] }
  | _ => none }
def fnProgramStepsRow : OpenClaim := { program := "ytgjnnlgeggamjaa", sum := "caf0fe2083e7f962f7a1abf9a108ebd5bfcf443e70d637ba4aa8f5d79227e8ef", func := "loop.example/reversiblecircuits/laws.FnProgramSteps", spec := "fnProgramSteps", unfollowed := true, recurses := true, apart := false }
def FnProgramStepsSaid : Prop := fnProgramStepsRow.holds Try.pinned (OpenSpec.ofChange fnProgramStepsSpec)

/-- ITS FALSE NEIGHBOUR: 'it returns false'. Refute it at one input. -/
def fnProgramStepsWrong : ChangeSpec := { name := "fnProgramSteps", fn := fun _ => fun
  | [d] => { results := [.lit (.bool false)], args := [d] }
  | _ => none }
def FnProgramStepsWrongFalsely : Prop := fnProgramStepsRow.holds Try.pinned (OpenSpec.ofChange fnProgramStepsWrong)

/- THE SECOND FORM. 'bulk': how many values and letters a reading holds, each counted each time it is reached (what is shared counts as often as it is met; a slice's spare places count too). A statement '..UptoSaid' is the law's where the arguments, and the package variables that the reading takes, are together of bulk at most 1048576: NARROWER than '..Said'. Prove '..Said' where nothing that the law and all that it calls make is longer than what came in: it says more and counts as full. Else prove '..UptoSaid'. A law counts once. -/
mutual
def uptoBulk {H : Type} : DataW H → Nat
  | .lit (.string bytes) => bytes.length + 1
  | .lit _ => 1
  | .nil => 1
  | .ptr d => uptoBulk d + 1
  | .slice elems spare => uptoBulkAll elems + uptoBulkAll spare + 1
  | .agg parts => uptoBulkAll parts + 1
  | .iface _ d => uptoBulk d + 1
  | .map entries => uptoBulkEntries entries + 1
  | .held _ => 1
def uptoBulkAll {H : Type} : List (DataW H) → Nat
  | [] => 0
  | d :: r => uptoBulk d + uptoBulkAll r
def uptoBulkEntries {H : Type} : List (Lit × DataW H) → Nat
  | [] => 0
  | x :: r => uptoBulkEntry x + uptoBulkEntries r
def uptoBulkEntry {H : Type} : Lit × DataW H → Nat
  | (.string bytes, d) => bytes.length + uptoBulk d + 1
  | (_, d) => uptoBulk d + 1
 end
def uptoSmall : (H : Type) → List (DataW H) → Bool := fun _ ds => decide (uptoBulkAll ds ≤ 1048576)
def OpenSpec.upto (s : _root_.Go.ChangeSpec) : _root_.Go.OpenSpec := { _root_.Go.OpenSpec.ofChange s with cond := some uptoSmall }

/-- 'laws.FnExactProgramBack', WHERE WHAT IT READS IS OF BULK AT MOST 1048576: true; the input reads as it did. -/
def fnExactProgramBackUptoRow : OpenClaim := { program := "ytgjnnlgeggamjaa", sum := "caf0fe2083e7f962f7a1abf9a108ebd5bfcf443e70d637ba4aa8f5d79227e8ef", func := "loop.example/reversiblecircuits/laws.FnExactProgramBack", spec := "fnExactProgramBack", unfollowed := true, recurses := true, apart := false, narrowed := true }
def FnExactProgramBackUptoSaid : Prop := fnExactProgramBackUptoRow.holds Try.pinned (OpenSpec.upto fnExactProgramBackSpec)

/-- 'laws.FnProgramBack', WHERE WHAT IT READS IS OF BULK AT MOST 1048576: true; the input reads as it did. -/
def fnProgramBackUptoRow : OpenClaim := { program := "ytgjnnlgeggamjaa", sum := "caf0fe2083e7f962f7a1abf9a108ebd5bfcf443e70d637ba4aa8f5d79227e8ef", func := "loop.example/reversiblecircuits/laws.FnProgramBack", spec := "fnProgramBack", unfollowed := true, recurses := true, apart := false, narrowed := true }
def FnProgramBackUptoSaid : Prop := fnProgramBackUptoRow.holds Try.pinned (OpenSpec.upto fnProgramBackSpec)

/-- 'laws.FnExactProgramRun', WHERE WHAT IT READS IS OF BULK AT MOST 1048576: true; the input reads as it did. -/
def fnExactProgramRunUptoRow : OpenClaim := { program := "ytgjnnlgeggamjaa", sum := "caf0fe2083e7f962f7a1abf9a108ebd5bfcf443e70d637ba4aa8f5d79227e8ef", func := "loop.example/reversiblecircuits/laws.FnExactProgramRun", spec := "fnExactProgramRun", unfollowed := true, recurses := true, apart := false, narrowed := true }
def FnExactProgramRunUptoSaid : Prop := fnExactProgramRunUptoRow.holds Try.pinned (OpenSpec.upto fnExactProgramRunSpec)

/-- 'laws.FnExactProgramSteps', WHERE WHAT IT READS IS OF BULK AT MOST 1048576: true; the input reads as it did. -/
def fnExactProgramStepsUptoRow : OpenClaim := { program := "ytgjnnlgeggamjaa", sum := "caf0fe2083e7f962f7a1abf9a108ebd5bfcf443e70d637ba4aa8f5d79227e8ef", func := "loop.example/reversiblecircuits/laws.FnExactProgramSteps", spec := "fnExactProgramSteps", unfollowed := true, recurses := true, apart := false, narrowed := true }
def FnExactProgramStepsUptoSaid : Prop := fnExactProgramStepsUptoRow.holds Try.pinned (OpenSpec.upto fnExactProgramStepsSpec)

/-- 'laws.FnProgramRun', WHERE WHAT IT READS IS OF BULK AT MOST 1048576: true; the input reads as it did. -/
def fnProgramRunUptoRow : OpenClaim := { program := "ytgjnnlgeggamjaa", sum := "caf0fe2083e7f962f7a1abf9a108ebd5bfcf443e70d637ba4aa8f5d79227e8ef", func := "loop.example/reversiblecircuits/laws.FnProgramRun", spec := "fnProgramRun", unfollowed := true, recurses := true, apart := false, narrowed := true }
def FnProgramRunUptoSaid : Prop := fnProgramRunUptoRow.holds Try.pinned (OpenSpec.upto fnProgramRunSpec)

/-- 'laws.FnProgramSteps', WHERE WHAT IT READS IS OF BULK AT MOST 1048576: true; the input reads as it did. -/
def fnProgramStepsUptoRow : OpenClaim := { program := "ytgjnnlgeggamjaa", sum := "caf0fe2083e7f962f7a1abf9a108ebd5bfcf443e70d637ba4aa8f5d79227e8ef", func := "loop.example/reversiblecircuits/laws.FnProgramSteps", spec := "fnProgramSteps", unfollowed := true, recurses := true, apart := false, narrowed := true }
def FnProgramStepsUptoSaid : Prop := fnProgramStepsUptoRow.holds Try.pinned (OpenSpec.upto fnProgramStepsSpec)

end Rows
end Go.Proofs.Ytgjnnlgeggamjaa
