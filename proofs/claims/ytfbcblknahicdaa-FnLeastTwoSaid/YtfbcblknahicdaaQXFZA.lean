/- KBN: laid into one text. -/
import Derived.Test.YtfbcblknahicdaaQXFZ

namespace Go.Proofs.Ytfbcblknahicdaa
set_option linter.unusedVariables false
set_option linter.unusedSimpArgs false
set_option maxRecDepth 20000
open Go.RowKit
attribute [local irreducible] runA runX AW
theorem gq_KBN {H G : Prop} (k : H) (h : Hid H → G := by (intro hh; repeat1' (first | (first | (refine nxA ?_; (first | fail | ((first | (refine z_op (by rfl) ?_; first | refine z_ok ?_ ?_ | refine z_ex ?_ (by first | exact zL1 | ((first | (first | refine mk_0 Int rfl rfl ?_ | refine mk_0 Gt rfl rfl ?_)); exact zWW) | exact zL2 | exact rw_c Int rfl | exact zL3 | fail) ?_) | ((first | refine q_callE wsT wsZT (by rfl) ?_ | refine q_callVE wsT (by rfl) (by rfl) ?_); refine ⟨_, _, _, (by first | assumption | exact k_alive | exact k_open _ (by omega) | exact k_backwards _ (by omega)), _, by rfl, ?_, ?_⟩)); focus (first | exact trivial | fail | exact zQZ)) | fail)) | refine swA ?_) | refine awA ?_); exact hh.out)) : G := h ⟨k⟩
theorem k_ct (n : Int) (l : List Gt) (hc : cokB n l = true) (N : Nat) (hN : (1 * 2 ^ n.toNat : Int) = (N : Int)) : Kon Try.prog 9 [vI n, roA l] [] (slA 0 0 (tabN l N)) [iRow (tabN l N)] [] := by
  obtain ⟨hn, hl, ha⟩ := cokB_t hc
  have hC := k_cv n l (by omega)
  rw [hc] at hC
  have hT := k_tab n l hc N hN
  (refine kM Try.func9 rfl ?_; intro hfit hfe)
  (repeat (first | refine gq_KBN ?_ | (refine ga1A ?_; intro _q ⟨_he, _hq⟩)))
  (refine rtA ?_; try rfl)
end Go.Proofs.Ytfbcblknahicdaa
