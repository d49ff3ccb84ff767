/- KMP: laid into one text. -/
import Derived.Test.YtnenhckongccgaaGreatDoorQHZA

namespace Go.Proofs.YtnenhckongccgaaGreatDoor
set_option linter.unusedVariables false
set_option linter.unusedSimpArgs false
set_option maxRecDepth 20000
open Go.RowKit
attribute [local irreducible] runA runX AW
def wsTR : WsT := (39, ([0], true)) :: (87, ([0, 1], true)) :: wsT
theorem gq_KMP {H G : Prop} (k : H) (h : Hid H → G := by (intro hh; repeat1' (first | (first | (refine nxA ?_; (first | fail | ((first | (refine z_op (by rfl) ?_; first | refine z_ok ?_ ?_ | refine z_ex ?_ (by first | exact zL1 | ((first | fail); exact zWW) | exact zL2 | fail | exact zL3 | fail) ?_) | ((first | refine q_callE wsTR wsZR (by rfl) ?_ | refine q_callVE wsTR (by rfl) (by rfl) ?_); refine ⟨_, _, _, (by first | assumption | exact k_alive | exact k_open _ (by omega) | exact k_sg _ (by omega)), _, by rfl, ?_, ?_⟩)); focus (first | exact trivial | fail | exact zQZ)) | fail)) | refine swA ?_) | refine awA ?_); exact hh.out)) : G := h ⟨k⟩
theorem k_sb (n : Int) (l : List Gt) (f w a : Int) (h : l.length ≤ 1000) : Kon Tryz.prog 11 [bG n l f w a, bG n l f w a] [] (vB true) [] [] := by
  have h1 : (n == n) = true := beq_self_eq_true _
  have h2 : (f == f) = true := beq_self_eq_true _
  have h3 : (w == w) = true := beq_self_eq_true _
  have h4 : (a == a) = true := beq_self_eq_true _
  (refine kM Tryz.func11 rfl ?_; intro hfit hfe)
  (repeat (first | refine gq_KMP ?_ | (refine ga1A ?_; intro _q ⟨_he, _hq⟩)))
  (refine rtA ?_; try rfl)
end Go.Proofs.YtnenhckongccgaaGreatDoor
