/- PKD: laid into one text. -/
import Derived.Test.YtgjnnlgeggamjaaQXCG

namespace Go.Proofs.Ytgjnnlgeggamjaa
set_option linter.unusedVariables false
set_option linter.unusedSimpArgs false
set_option maxRecDepth 20000
open Go.RowKit
attribute [local irreducible] runA runX AW
theorem gq_PKD {H G : Prop} (k : H) (h : Hid H → G := by (intro hh; repeat1' (first | (first | (refine nxA ?_; (first | fail | ((first | (refine z_op (by rfl) ?_; first | refine z_ok ?_ ?_ | refine z_ex ?_ (by first | exact zL1 | ((first | fail); exact zWW) | exact zL2 | (first | exact rw_c Gt rfl) | exact zL3 | fail) ?_) | ((first | refine q_callE wsT wsZ (by rfl) ?_ | refine q_callVE wsT (by rfl) (by rfl) ?_); refine ⟨_, _, _, (by first | assumption | exact k_lvS _ _ _ _), _, by rfl, ?_, ?_⟩)); focus (first | exact trivial | fail | exact zQZ)) | fail)) | refine swA ?_) | refine awA ?_); exact hh.out)) : G := h ⟨k⟩
set_option maxHeartbeats 4000000 in
theorem k_lbS (l : Gt) (h : lkG l = true) : Kon Try.prog 33 [lV l.k l.a l.b l.c] [] (lV (lb l).k (lb l).a (lb l).b (lb l).c) [] [] := by
  have hk := lk_kind h
  have hc := lk_cases h
  obtain ⟨k, a, b, c⟩ := l
  have hL := k_lvS k a b c
  have h' : lok k a b c = true := h
  rw [h'] at hL
  clear h h'
  dsimp only at hk hc ⊢
  have hcc : 0 ≤ c ∧ c ≤ 63 := by omega
  clear hc
  obtain rfl | rfl | rfl | rfl | rfl | rfl | rfl | rfl | rfl : k = 0 ∨ k = 1 ∨ k = 2 ∨ k = 3 ∨ k = 4 ∨ k = 5 ∨ k = 6 ∨ k = 7 ∨ k = 8 := by omega
  · show Kon _ _ _ _ (lV 1 a b c) _ _
    (refine kM Try.func33 rfl ?_; intro hfit hfe)
    (repeat (first | refine gq_PKD ?_ | (refine ga0A ?_; intro _hq)))
    (refine rtA ?_; try rfl)
  · show Kon _ _ _ _ (lV 0 a b c) _ _
    (refine kM Try.func33 rfl ?_; intro hfit hfe)
    (repeat (first | refine gq_PKD ?_ | (refine ga0A ?_; intro _hq)))
    (refine rtA ?_; try rfl)
  · show Kon _ _ _ _ (lV 2 a b ((64 - c) % 64)) _ _
    (refine kM Try.func33 rfl ?_; intro hfit hfe)
    (repeat (first | refine gq_PKD ?_ | (refine ga0A ?_; intro _hq)))
    (refine rtA ?_; try rfl)
  · show Kon _ _ _ _ (lV 3 a b c) _ _
    (refine kM Try.func33 rfl ?_; intro hfit hfe)
    (repeat (first | refine gq_PKD ?_ | (refine ga0A ?_; intro _hq)))
    (refine rtA ?_; try rfl)
  · show Kon _ _ _ _ (lV 5 0 0 0) _ _
    (refine kM Try.func33 rfl ?_; intro hfit hfe)
    (repeat (first | refine gq_PKD ?_ | (refine ga0A ?_; intro _hq)))
    (refine rtA ?_; try rfl)
  · show Kon _ _ _ _ (lV 4 a b c) _ _
    (refine kM Try.func33 rfl ?_; intro hfit hfe)
    (repeat (first | refine gq_PKD ?_ | (refine ga0A ?_; intro _hq)))
    (refine rtA ?_; try rfl)
  · show Kon _ _ _ _ (lV 8 a b c) _ _
    (refine kM Try.func33 rfl ?_; intro hfit hfe)
    (repeat (first | refine gq_PKD ?_ | (refine ga0A ?_; intro _hq)))
    (refine rtA ?_; try rfl)
  · show Kon _ _ _ _ (lV 7 a b c) _ _
    (refine kM Try.func33 rfl ?_; intro hfit hfe)
    (repeat (first | refine gq_PKD ?_ | (refine ga0A ?_; intro _hq)))
    (refine rtA ?_; try rfl)
  · show Kon _ _ _ _ (lV 6 a b c) _ _
    (refine kM Try.func33 rfl ?_; intro hfit hfe)
    (repeat (first | refine gq_PKD ?_ | (refine ga0A ?_; intro _hq)))
    (refine rtA ?_; try rfl)
end Go.Proofs.Ytgjnnlgeggamjaa
