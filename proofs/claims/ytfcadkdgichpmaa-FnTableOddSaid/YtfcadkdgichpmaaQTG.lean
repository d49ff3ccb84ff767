/- PQ: laid into one text. -/
import Derived.Test.YtfcadkdgichpmaaQTE
import Derived.Test.YtfcadkdgichpmaaQTF

/- Tables of circuits: odd exactly if an odd number of the gates are; with four lines or more none is. Plain. -/
namespace Go.Proofs.Ytfcadkdgichpmaa
set_option linter.unusedVariables false
set_option linter.unusedSimpArgs false
/-- A gate on words. -/
def gN (g : Gt) (v : Nat) : Nat := (gr g (v : Int)).toNat
def prOk (n k a b c : Nat) : Bool := !(gok (n : Int) ⟨(k : Int), (a : Int), (b : Int), (c : Int)⟩) || prM (gN ⟨(k : Int), (a : Int), (b : Int), (c : Int)⟩) (2 ^ n) % 2 == 0
set_option maxRecDepth 100000 in
theorem pr_even4 : ∀ k : Fin 5, ∀ a : Fin 4, ∀ b : Fin 4, ∀ c : Fin 4, prOk 4 k.val a.val b.val c.val = true := by decide +kernel
set_option maxRecDepth 100000 in
theorem pr_even5 : ∀ k : Fin 5, ∀ a : Fin 5, ∀ b : Fin 5, ∀ c : Fin 5, prOk 5 k.val a.val b.val c.val = true := by decide +kernel
set_option maxRecDepth 100000 in
theorem pr_even6 : ∀ k : Fin 5, ∀ a : Fin 6, ∀ b : Fin 6, ∀ c : Fin 6, prOk 6 k.val a.val b.val c.val = true := by decide +kernel
set_option maxRecDepth 100000 in
theorem pr_even7 : ∀ k : Fin 5, ∀ a : Fin 7, ∀ b : Fin 7, ∀ c : Fin 7, prOk 7 k.val a.val b.val c.val = true := by decide +kernel
set_option maxRecDepth 100000 in
theorem pr_even8 : ∀ k : Fin 5, ∀ a : Fin 8, ∀ b : Fin 8, ∀ c : Fin 8, prOk 8 k.val a.val b.val c.val = true := by decide +kernel
end Go.Proofs.Ytfcadkdgichpmaa
