/- TJB: laid into one text. -/
import Derived.Test.YtgjnnlgeggamjaaQXEZF
import Derived.Test.YtgjnnlgeggamjaaQXEZG

namespace Go.Proofs.Ytgjnnlgeggamjaa
set_option linter.unusedVariables false
set_option linter.unusedSimpArgs false
set_option maxRecDepth 20000
open Go.RowKit
attribute [local irreducible] runA runX AW
theorem prO_len (P : List Gt) (r : List Int) : (prO (fin P r)).length ≤ 4 := by
  cases h : fin P r with
  | none => exact Nat.zero_le _
  | some x =>
    show x.1.length ≤ 4
    unfold fin at h
    split at h
    · rename_i hr
      cases hp : prs P with
      | none => rw [hp] at h; cases h
      | some t =>
        rw [hp] at h
        obtain ⟨h16, hall, hfl, hwf, hdp, _⟩ := prs_t hp
        exact Nat.le_of_eq (bck hwf (by unfold lkA; rw [hfl]; exact hall) (r, 0) x (rvB_rok hr) h).1.1
    · cases h
end Go.Proofs.Ytgjnnlgeggamjaa
