/- TRV: laid into one text. -/
import Derived.Test.YtgjnnlgeggamjaaQXDN
import Derived.Test.YtgjnnlgeggamjaaQXDO

namespace Go.Proofs.Ytgjnnlgeggamjaa
set_option linter.unusedVariables false
set_option linter.unusedSimpArgs false
open Go.RowKit
section
variable {a : Act} {w w' : World} {o : Oper} {x y : Tmp} {b k : Nat} {v v' : Value} {g : Gt}
theorem ro_f3 (hop : o.op = .fieldAddr 83 (.tmp x) 3) (ha : a.eval (.tmp x) = .pointer (some ⟨b, 0, none⟩)) : (execOp a.eval o).run Try.prog w = .ok (.value (.pointer (some ⟨b, 6, none⟩))) w := by
  unfold execOp; rw [hop]; dsimp only; rw [ha]; simp [go_sem]
end
end Go.Proofs.Ytgjnnlgeggamjaa
