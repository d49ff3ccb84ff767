/- KGQ: laid into one text. -/
import Derived.Test.YtnenhckongccgaaGreatDoorQHV
import Derived.Test.YtnenhckongccgaaGreatDoorQHW

namespace Go.Proofs.YtnenhckongccgaaGreatDoor
set_option linter.unusedVariables false
set_option linter.unusedSimpArgs false
set_option maxRecDepth 20000
open Go.RowKit
attribute [local irreducible] runA runX AW
def nE (n : Int) : Int := if 8 < (if 1 > n then 1 else n) then 8 else (if 1 > n then 1 else n)
theorem nE_bd (n : Int) : 1 ≤ nE n ∧ nE n ≤ 8 := by unfold nE; omega
def gnM (n : Int) : Nat := if (3 : Int) > nE n then 3 else (nE n).toNat
theorem gnM_eq (n : Int) : (if (3 : Int) > nE n then 3 else nE n) = (gnM n : Int) := by
  have h := nE_bd n
  unfold gnM
  split <;> omega
theorem gnM_bd (n : Int) : 3 ≤ gnM n ∧ gnM n ≤ 8 := by
  have h := nE_bd n
  unfold gnM
  split <;> omega
end Go.Proofs.YtnenhckongccgaaGreatDoor
