/- TRY, TRM: laid into one text. -/
import Derived.Test.YtgjnnlgeggamjaaQXEN
import Derived.Test.YtgjnnlgeggamjaaQXEZC
import Derived.Test.YtgjnnlgeggamjaaQXEZG

namespace Go.Proofs.Ytgjnnlgeggamjaa
set_option linter.unusedVariables false
set_option linter.unusedSimpArgs false
set_option maxRecDepth 20000
open Go.RowKit
attribute [local irreducible] runA runX AW
theorem pbB_len (P : List Gt) : (pbB P).length ≤ 16 := by
  unfold pbB
  cases hp : prs P with
  | none => exact Nat.zero_le _
  | some t =>
    obtain ⟨h16, hall, hfl, hwf, hdp, _⟩ := prs_t hp
    have := (bk_ok hwf (by unfold lkA; rw [hfl]; exact hall)).2.2.1
    show (fl (bk t)).length ≤ 16
    rw [this, hfl]; exact h16
def geq (g h : Gt) : Bool := g.k == h.k && (g.a == h.a && (g.b == h.b && g.c == h.c))
end Go.Proofs.Ytgjnnlgeggamjaa
