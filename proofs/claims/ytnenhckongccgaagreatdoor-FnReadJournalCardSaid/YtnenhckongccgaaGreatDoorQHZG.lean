/- KMT: laid into one text. -/
import Derived.Test.YtnenhckongccgaaGreatDoorQHZB
import Derived.Test.YtnenhckongccgaaGreatDoorQHZF

namespace Go.Proofs.YtnenhckongccgaaGreatDoor
set_option linter.unusedVariables false
set_option linter.unusedSimpArgs false
set_option maxRecDepth 20000
open Go.RowKit
attribute [local irreducible] runA runX AW
theorem stp_add (n : Int) (s : BS) (k : Nat) (d : Dd) : stB n (s, k) d = ((stB n (s, 0) d).1, k + (stB n (s, 0) d).2) := by
  unfold stB
  dsimp only
  split <;> simp
theorem runM_add (n : Int) : ∀ (ds : List Dd) (s : BS) (k : Nat), runM n (s, k) ds = ((runM n (s, 0) ds).1, k + (runM n (s, 0) ds).2)
  | [], s, k => rfl
  | d :: ds, s, k => by
    show runM n (stB n (s, k) d) ds = ((runM n (stB n (s, 0) d) ds).1, k + (runM n (stB n (s, 0) d) ds).2)
    rw [stp_add n s k d]
    rcases hx : stB n (s, 0) d with ⟨s2, k2⟩
    dsimp only
    rw [runM_add n ds s2 (k + k2), runM_add n ds s2 k2]
    dsimp only
    rw [Nat.add_assoc]
end Go.Proofs.YtnenhckongccgaaGreatDoor
