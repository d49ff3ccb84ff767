/- TRY: laid into one text. -/
import Derived.Test.YtgjnnlgeggamjaaQXCT
import Derived.Test.YtgjnnlgeggamjaaQXCU

namespace Go.Proofs.Ytgjnnlgeggamjaa
set_option linter.unusedVariables false
set_option linter.unusedSimpArgs false
set_option maxRecDepth 20000
open Go.RowKit
attribute [local irreducible] runA runX AW
theorem k_pbS1 (P : List Gt) (h : P.length ≤ 2000000) : Kon Try.prog 10 [roA P] [] (slA 0 0 (pbB P)) [rwE 47 (pbB P)] [] := by
  cases hp : prs P with
  | none =>
    have h1 := k_pbS0 P h (by rw [pvS_prs, hp]; rfl)
    unfold pbB; rw [hp]; exact h1
  | some t =>
    have h1 := k_pbS P h (by rw [pvS_prs, hp]; rfl)
    obtain ⟨h16, hall, hfl, hwf, hdp, _⟩ := prs_t hp
    have h2 := sbS_bk t [] [] hwf (by unfold lkA; rw [hfl]; exact hall)
    rw [List.nil_append, List.append_nil, hfl] at h2
    unfold pbB; rw [hp]
    rw [show ([] : List Gt).length = 0 from rfl] at h2
    rw [h2] at h1
    exact h1
theorem pbB_len (P : List Gt) : (pbB P).length ≤ 16 := by
  unfold pbB
  cases hp : prs P with
  | none => exact Nat.zero_le _
  | some t =>
    obtain ⟨h16, hall, hfl, hwf, hdp, _⟩ := prs_t hp
    have := (bk_ok hwf (by unfold lkA; rw [hfl]; exact hall)).2.2.1
    show (fl (bk t)).length ≤ 16
    rw [this, hfl]; exact h16
end Go.Proofs.Ytgjnnlgeggamjaa
