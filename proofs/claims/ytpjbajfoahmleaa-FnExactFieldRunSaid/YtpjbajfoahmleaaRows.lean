/-
  No cell of these rows narrows 'for every input' (looked for: loops, veiled, ifaces, maps, wideKeys, modest, calm, conditions, laid).
  DERIVED. THE GIVEN ROWS OF THIS SEAT. 7 by the template 'for every input the law returns true; each argument reads behind the call as it read before'; 0 by the template 'total and deterministic' (their statements: YtpjbajfoahmleaaTotals.lean).
  GIVEN WITH THE SEED: the statements are not yours to turn. If you find one false, say at which input.
  Laid BY PROGRAM, IN A SANDBOX (cutbox-rows.mjs): the forced cells as the released guide's own fill.sh prints them over the translation 0a1fb0ed0b8c439c… (all of the seat's roots in one cut). By AI agents, Wed Nov 11 2026. No macro, syntax, notation, axiom, sorry.
-/
import Derived.Test.YtpjbajfoahmleaaChecked
import GoSem.Claim
import GoSem.ClaimJoined
import GoSem.ClaimMapViews
import Derived.JoinedTies
import Derived.KernelRfl
namespace Go.Proofs.Ytpjbajfoahmleaa
/- THE CELL 'sum', in the pinned program and in every row, IS THE sha256 OF THE DUMP (.gsa) THAT YtpjbajfoahmleaaProg.lean LOADS. Nothing in Lean hashes anything: it is a label: what it is worth is what the hold of that sum in a sandbox is worth. -/
noncomputable def Try.pinned : Pinned := { name := "ytpjbajfoahmleaa", sum := "0a1fb0ed0b8c439c21a2b29e924d6d37f2197b443c22054026d55d5915895b07", checked := Try.checked }
namespace Rows
def none {H : Type} : Left H := { results := [], args := [] }

/-- 'laws.FnExactFieldPut': WHATEVER THE INPUT: true; the input reads as it did. -/
def fnExactFieldPutSpec : ChangeSpec := { name := "fnExactFieldPut", fn := fun _ => fun
  | [d1, d2] => { results := [.lit (.bool true)], args := [d1, d2] }
  | _ => none }
def fnExactFieldPutRow : OpenClaim := { program := "ytpjbajfoahmleaa", sum := "0a1fb0ed0b8c439c21a2b29e924d6d37f2197b443c22054026d55d5915895b07", func := "loop.example/reversiblecircuits/laws.FnExactFieldPut", spec := "fnExactFieldPut", apart := false }
def FnExactFieldPutSaid : Prop := fnExactFieldPutRow.holds Try.pinned (OpenSpec.ofChange fnExactFieldPutSpec)

/-- ITS FALSE NEIGHBOUR: 'it returns false'. Refute it at one input. -/
def fnExactFieldPutWrong : ChangeSpec := { name := "fnExactFieldPut", fn := fun _ => fun
  | [d1, d2] => { results := [.lit (.bool false)], args := [d1, d2] }
  | _ => none }
def FnExactFieldPutWrongFalsely : Prop := fnExactFieldPutRow.holds Try.pinned (OpenSpec.ofChange fnExactFieldPutWrong)

/-- 'laws.FnFieldPut': WHATEVER THE INPUT: true; the input reads as it did. -/
def fnFieldPutSpec : ChangeSpec := { name := "fnFieldPut", fn := fun _ => fun
  | [d] => { results := [.lit (.bool true)], args := [d] }
  | _ => none }
def fnFieldPutRow : OpenClaim := { program := "ytpjbajfoahmleaa", sum := "0a1fb0ed0b8c439c21a2b29e924d6d37f2197b443c22054026d55d5915895b07", func := "loop.example/reversiblecircuits/laws.FnFieldPut", spec := "fnFieldPut", unfollowed := true, recurses := true, apart := false }
def FnFieldPutSaid : Prop := fnFieldPutRow.holds Try.pinned (OpenSpec.ofChange fnFieldPutSpec)

/-- ITS FALSE NEIGHBOUR: 'it returns false'. Refute it at one input. -/
def fnFieldPutWrong : ChangeSpec := { name := "fnFieldPut", fn := fun _ => fun
  | [d] => { results := [.lit (.bool false)], args := [d] }
  | _ => none }
def FnFieldPutWrongFalsely : Prop := fnFieldPutRow.holds Try.pinned (OpenSpec.ofChange fnFieldPutWrong)

/-- 'laws.FnFieldTurn': WHATEVER THE INPUT: true; the input reads as it did. -/
def fnFieldTurnSpec : ChangeSpec := { name := "fnFieldTurn", fn := fun _ => fun
  | [d] => { results := [.lit (.bool true)], args := [d] }
  | _ => none }
def fnFieldTurnRow : OpenClaim := { program := "ytpjbajfoahmleaa", sum := "0a1fb0ed0b8c439c21a2b29e924d6d37f2197b443c22054026d55d5915895b07", func := "loop.example/reversiblecircuits/laws.FnFieldTurn", spec := "fnFieldTurn", unfollowed := true, recurses := true, apart := false }
def FnFieldTurnSaid : Prop := fnFieldTurnRow.holds Try.pinned (OpenSpec.ofChange fnFieldTurnSpec)

/-- ITS FALSE NEIGHBOUR: 'it returns false'. Refute it at one input. -/
def fnFieldTurnWrong : ChangeSpec := { name := "fnFieldTurn", fn := fun _ => fun
  | [d] => { results := [.lit (.bool false)], args := [d] }
  | _ => none }
def FnFieldTurnWrongFalsely : Prop := fnFieldTurnRow.holds Try.pinned (OpenSpec.ofChange fnFieldTurnWrong)

/-- 'laws.FnExactFieldRun': WHATEVER THE INPUT: true; the input reads as it did. -/
def fnExactFieldRunSpec : ChangeSpec := { name := "fnExactFieldRun", fn := fun _ => fun
  | [d1, d2] => { results := [.lit (.bool true)], args := [d1, d2] }
  | _ => none }
def fnExactFieldRunRow : OpenClaim := { program := "ytpjbajfoahmleaa", sum := "0a1fb0ed0b8c439c21a2b29e924d6d37f2197b443c22054026d55d5915895b07", func := "loop.example/reversiblecircuits/laws.FnExactFieldRun", spec := "fnExactFieldRun", unfollowed := true, recurses := true, apart := false }
def FnExactFieldRunSaid : Prop := fnExactFieldRunRow.holds Try.pinned (OpenSpec.ofChange fnExactFieldRunSpec)

/-- ITS FALSE NEIGHBOUR: 'it returns false'. Refute it at one input. -/
def fnExactFieldRunWrong : ChangeSpec := { name := "fnExactFieldRun", fn := fun _ => fun
  | [d1, d2] => { results := [.lit (.bool false)], args := [d1, d2] }
  | _ => none }
def FnExactFieldRunWrongFalsely : Prop := fnExactFieldRunRow.holds Try.pinned (OpenSpec.ofChange fnExactFieldRunWrong)

/-- 'laws.FnFieldPeriod': WHATEVER THE INPUT: true; the input reads as it did. -/
def fnFieldPeriodSpec : ChangeSpec := { name := "fnFieldPeriod", fn := fun _ => fun
  | [d] => { results := [.lit (.bool true)], args := [d] }
  | _ => none }
def fnFieldPeriodRow : OpenClaim := { program := "ytpjbajfoahmleaa", sum := "0a1fb0ed0b8c439c21a2b29e924d6d37f2197b443c22054026d55d5915895b07", func := "loop.example/reversiblecircuits/laws.FnFieldPeriod", spec := "fnFieldPeriod", unfollowed := true, recurses := true, apart := false }
def FnFieldPeriodSaid : Prop := fnFieldPeriodRow.holds Try.pinned (OpenSpec.ofChange fnFieldPeriodSpec)

/-- ITS FALSE NEIGHBOUR: 'it returns false'. Refute it at one input. -/
def fnFieldPeriodWrong : ChangeSpec := { name := "fnFieldPeriod", fn := fun _ => fun
  | [d] => { results := [.lit (.bool false)], args := [d] }
  | _ => none }
def FnFieldPeriodWrongFalsely : Prop := fnFieldPeriodRow.holds Try.pinned (OpenSpec.ofChange fnFieldPeriodWrong)

/-- 'laws.FnFieldRun': WHATEVER THE INPUT: true; the input reads as it did. -/
def fnFieldRunSpec : ChangeSpec := { name := "fnFieldRun", fn := fun _ => fun
  | [d] => { results := [.lit (.bool true)], args := [d] }
  | _ => none }
def fnFieldRunRow : OpenClaim := { program := "ytpjbajfoahmleaa", sum := "0a1fb0ed0b8c439c21a2b29e924d6d37f2197b443c22054026d55d5915895b07", func := "loop.example/reversiblecircuits/laws.FnFieldRun", spec := "fnFieldRun", unfollowed := true, recurses := true, apart := false }
def FnFieldRunSaid : Prop := fnFieldRunRow.holds Try.pinned (OpenSpec.ofChange fnFieldRunSpec)

/-- ITS FALSE NEIGHBOUR: 'it returns false'. Refute it at one input. -/
def fnFieldRunWrong : ChangeSpec := { name := "fnFieldRun", fn := fun _ => fun
  | [d] => { results := [.lit (.bool false)], args := [d] }
  | _ => none }
def FnFieldRunWrongFalsely : Prop := fnFieldRunRow.holds Try.pinned (OpenSpec.ofChange fnFieldRunWrong)

/-- 'laws.FnStill': WHATEVER THE INPUT: true; the input reads as it did. -/
def fnStillSpec : ChangeSpec := { name := "fnStill", fn := fun _ => fun
  | [d] => { results := [.lit (.bool true)], args := [d] }
  | _ => none }
def fnStillRow : OpenClaim := { program := "ytpjbajfoahmleaa", sum := "0a1fb0ed0b8c439c21a2b29e924d6d37f2197b443c22054026d55d5915895b07", func := "loop.example/reversiblecircuits/laws.FnStill", spec := "fnStill", unfollowed := true, recurses := true, apart := false }
def FnStillSaid : Prop := fnStillRow.holds Try.pinned (OpenSpec.ofChange fnStillSpec)

/-- ITS FALSE NEIGHBOUR: 'it returns false'. Refute it at one input. -/
def fnStillWrong : ChangeSpec := { name := "fnStill", fn := fun _ => fun
  | [d] => { results := [.lit (.bool false)], args := [d] }
  | _ => none }
def FnStillWrongFalsely : Prop := fnStillRow.holds Try.pinned (OpenSpec.ofChange fnStillWrong)

/- THE SECOND FORM. 'bulk': how many values and letters a reading holds, each counted each time it is reached (what is shared counts as often as it is met; a slice's spare places count too). A statement '..UptoSaid' is the law's where the arguments, and the package variables that the reading takes, are together of bulk at most 1048576: NARROWER than '..Said'. Prove '..Said' where nothing that the law and all that it calls make is longer than what came in: it says more and counts as full. Else prove '..UptoSaid'. A law counts once. -/
mutual
def uptoBulk {H : Type} : DataW H → Nat
  | .lit (.string bytes) => bytes.length + 1
  | .lit _ => 1
  | .nil => 1
  | .ptr d => uptoBulk d + 1
  | .slice elems spare => uptoBulkAll elems + uptoBulkAll spare + 1
  | .agg parts => uptoBulkAll parts + 1
  | .iface _ d => uptoBulk d + 1
  | .map entries => uptoBulkEntries entries + 1
  | .held _ => 1
def uptoBulkAll {H : Type} : List (DataW H) → Nat
  | [] => 0
  | d :: r => uptoBulk d + uptoBulkAll r
def uptoBulkEntries {H : Type} : List (Lit × DataW H) → Nat
  | [] => 0
  | x :: r => uptoBulkEntry x + uptoBulkEntries r
def uptoBulkEntry {H : Type} : Lit × DataW H → Nat
  | (.string bytes, d) => bytes.length + uptoBulk d + 1
  | (_, d) => uptoBulk d + 1
 end
def uptoSmall : (H : Type) → List (DataW H) → Bool := fun _ ds => decide (uptoBulkAll ds ≤ 1048576)
def OpenSpec.upto (s : _root_.Go.ChangeSpec) : _root_.Go.OpenSpec := { _root_.Go.OpenSpec.ofChange s with cond := some uptoSmall }

/-- 'laws.FnExactFieldPut', WHERE WHAT IT READS IS OF BULK AT MOST 1048576: true; the input reads as it did. -/
def fnExactFieldPutUptoRow : OpenClaim := { program := "ytpjbajfoahmleaa", sum := "0a1fb0ed0b8c439c21a2b29e924d6d37f2197b443c22054026d55d5915895b07", func := "loop.example/reversiblecircuits/laws.FnExactFieldPut", spec := "fnExactFieldPut", apart := false, narrowed := true }
def FnExactFieldPutUptoSaid : Prop := fnExactFieldPutUptoRow.holds Try.pinned (OpenSpec.upto fnExactFieldPutSpec)

/-- 'laws.FnFieldPut', WHERE WHAT IT READS IS OF BULK AT MOST 1048576: true; the input reads as it did. -/
def fnFieldPutUptoRow : OpenClaim := { program := "ytpjbajfoahmleaa", sum := "0a1fb0ed0b8c439c21a2b29e924d6d37f2197b443c22054026d55d5915895b07", func := "loop.example/reversiblecircuits/laws.FnFieldPut", spec := "fnFieldPut", unfollowed := true, recurses := true, apart := false, narrowed := true }
def FnFieldPutUptoSaid : Prop := fnFieldPutUptoRow.holds Try.pinned (OpenSpec.upto fnFieldPutSpec)

/-- 'laws.FnFieldTurn', WHERE WHAT IT READS IS OF BULK AT MOST 1048576: true; the input reads as it did. -/
def fnFieldTurnUptoRow : OpenClaim := { program := "ytpjbajfoahmleaa", sum := "0a1fb0ed0b8c439c21a2b29e924d6d37f2197b443c22054026d55d5915895b07", func := "loop.example/reversiblecircuits/laws.FnFieldTurn", spec := "fnFieldTurn", unfollowed := true, recurses := true, apart := false, narrowed := true }
def FnFieldTurnUptoSaid : Prop := fnFieldTurnUptoRow.holds Try.pinned (OpenSpec.upto fnFieldTurnSpec)

/-- 'laws.FnExactFieldRun', WHERE WHAT IT READS IS OF BULK AT MOST 1048576: true; the input reads as it did. -/
def fnExactFieldRunUptoRow : OpenClaim := { program := "ytpjbajfoahmleaa", sum := "0a1fb0ed0b8c439c21a2b29e924d6d37f2197b443c22054026d55d5915895b07", func := "loop.example/reversiblecircuits/laws.FnExactFieldRun", spec := "fnExactFieldRun", unfollowed := true, recurses := true, apart := false, narrowed := true }
def FnExactFieldRunUptoSaid : Prop := fnExactFieldRunUptoRow.holds Try.pinned (OpenSpec.upto fnExactFieldRunSpec)

/-- 'laws.FnFieldPeriod', WHERE WHAT IT READS IS OF BULK AT MOST 1048576: true; the input reads as it did. -/
def fnFieldPeriodUptoRow : OpenClaim := { program := "ytpjbajfoahmleaa", sum := "0a1fb0ed0b8c439c21a2b29e924d6d37f2197b443c22054026d55d5915895b07", func := "loop.example/reversiblecircuits/laws.FnFieldPeriod", spec := "fnFieldPeriod", unfollowed := true, recurses := true, apart := false, narrowed := true }
def FnFieldPeriodUptoSaid : Prop := fnFieldPeriodUptoRow.holds Try.pinned (OpenSpec.upto fnFieldPeriodSpec)

/-- 'laws.FnFieldRun', WHERE WHAT IT READS IS OF BULK AT MOST 1048576: true; the input reads as it did. -/
def fnFieldRunUptoRow : OpenClaim := { program := "ytpjbajfoahmleaa", sum := "0a1fb0ed0b8c439c21a2b29e924d6d37f2197b443c22054026d55d5915895b07", func := "loop.example/reversiblecircuits/laws.FnFieldRun", spec := "fnFieldRun", unfollowed := true, recurses := true, apart := false, narrowed := true }
def FnFieldRunUptoSaid : Prop := fnFieldRunUptoRow.holds Try.pinned (OpenSpec.upto fnFieldRunSpec)

/-- 'laws.FnStill', WHERE WHAT IT READS IS OF BULK AT MOST 1048576: true; the input reads as it did. -/
def fnStillUptoRow : OpenClaim := { program := "ytpjbajfoahmleaa", sum := "0a1fb0ed0b8c439c21a2b29e924d6d37f2197b443c22054026d55d5915895b07", func := "loop.example/reversiblecircuits/laws.FnStill", spec := "fnStill", unfollowed := true, recurses := true, apart := false, narrowed := true }
def FnStillUptoSaid : Prop := fnStillUptoRow.holds Try.pinned (OpenSpec.upto fnStillSpec)

end Rows
end Go.Proofs.Ytpjbajfoahmleaa
