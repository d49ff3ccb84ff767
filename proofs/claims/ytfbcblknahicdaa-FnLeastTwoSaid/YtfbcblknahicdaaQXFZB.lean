/- KBO: laid into one text. -/
import Derived.Test.YtfbcblknahicdaaQXFZA

namespace Go.Proofs.Ytfbcblknahicdaa
set_option linter.unusedVariables false
set_option linter.unusedSimpArgs false
set_option maxRecDepth 20000
open Go.RowKit
attribute [local irreducible] runA runX AW
theorem gq_KBO {H G : Prop} (k : H) (h : Hid H → G := by (intro hh; repeat1' (first | (first | (refine nxA ?_; (first | fail | ((first | (refine z_op (by rfl) ?_; first | refine z_ok ?_ ?_ | refine z_ex ?_ (by first | exact zL1 | ((first | (first | refine mk_0 Int rfl rfl ?_ | refine mk_0 Gt rfl rfl ?_)); exact zWW) | exact zL2 | exact rw_c Int rfl | exact zL3 | fail) ?_) | ((first | refine q_callE wsT wsZT (by rfl) ?_ | refine q_callVE wsT (by rfl) (by rfl) ?_); refine ⟨_, _, _, (by first | assumption | exact k_alive | exact k_open _ (by omega)), _, by rfl, ?_, ?_⟩)); focus (first | exact trivial | fail | exact zQZ)) | fail)) | refine swA ?_) | refine awA ?_); exact hh.out)) : G := h ⟨k⟩
theorem ex_dTab (l : List UInt8) (hl : l.length ≤ 100000000) : ∃ (L : Int) (cs : List Gt), (-1 ≤ L ∧ L ≤ 9) ∧ cs.length ≤ 31 ∧ (∀ g ∈ cs, gtb g) ∧ Kon Try.prog 7 [roA l] [] (.tup [.one (.v (.int .i64 L)), .one (.sl 0 0 cs.length)]) [gRow cs] [] := by
  have h2 : (l.take 2000).length ≤ 2000 := by simp; omega
  obtain ⟨L, cs, c', h3, h4, h5, h6, hK⟩ := ex_lined (l.take 2000) 0 9 (by omega) (by omega)
  refine ⟨L, cs, h3, h4, h5, ?_⟩
  (refine kM Try.func7 rfl ?_; intro hfit hfe)
  (repeat (first | refine gq_KBO ?_ | (refine ga1A ?_; intro _q ⟨_he, _hq⟩)))
  (refine rtA ?_; try rfl)
end Go.Proofs.Ytfbcblknahicdaa
