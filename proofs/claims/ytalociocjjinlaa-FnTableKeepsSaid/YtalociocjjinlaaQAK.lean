/- KDL: laid into one text. -/
import Derived.Test.YtalociocjjinlaaQAF

namespace Go.Proofs.Ytalociocjjinlaa
set_option linter.unusedVariables false
set_option linter.unusedSimpArgs false
set_option maxRecDepth 20000
open Go.RowKit
attribute [local irreducible] runA runX AW
theorem gq_KDL {H G : Prop} (k : H) (h : Hid H → G := by (intro hh; repeat1' (first | (first | (refine nxA ?_; (first | fail | ((first | (refine z_op (by rfl) ?_; first | refine z_ok ?_ ?_ | refine z_ex ?_ (by first | exact zL1 | ((first | fail); exact zWW) | exact zL2 | exact rw_c Int rfl | exact zL3 | fail) ?_) | ((first | refine q_callE wsT wsZ (by rfl) ?_ | refine q_callVE wsT (by rfl) (by rfl) ?_); refine ⟨_, _, _, (by first | assumption), _, by rfl, ?_, ?_⟩)); focus (first | exact trivial | fail | exact zQZ)) | fail)) | refine swA ?_) | refine awA ?_); exact hh.out)) : G := h ⟨k⟩
theorem ex_lines (l : List UInt8) (c n : Int) (h : 0 ≤ c ∧ c ≤ 100000 ∧ l.length ≤ 2000 ∧ 0 < n ∧ n ≤ 1000) : ∃ v : Int, (-1 ≤ v ∧ v ≤ 9) ∧ Kon Try.prog 38 [p0, vI n] [rdE l c] (vI v) [] [rdE l (c + 1 + 1)] := by
  obtain ⟨v, hK1⟩ := ex_odd l c n (by omega)
  cases v with
  | true =>
    obtain ⟨a, _, ha, hK2⟩ := ex_pick l (c + 1) 3 (by omega)
    replace ha := ha (by omega)
    obtain rfl | rfl | rfl : a = 0 ∨ a = 1 ∨ a = 2 := by omega
    · refine ⟨0, by omega, ?_⟩; (refine kM Try.func38 rfl ?_; intro hfit hfe); (repeat (first | refine gq_KDL ?_ | (refine ga1A ?_; intro _q ⟨_he, _hq⟩))); (refine rtA ?_; try rfl)
    · refine ⟨-1, by omega, ?_⟩; (refine kM Try.func38 rfl ?_; intro hfit hfe); (repeat (first | refine gq_KDL ?_ | (refine ga1A ?_; intro _q ⟨_he, _hq⟩))); (refine rtA ?_; try rfl)
    · refine ⟨9, by omega, ?_⟩; (refine kM Try.func38 rfl ?_; intro hfit hfe); (repeat (first | refine gq_KDL ?_ | (refine ga1A ?_; intro _q ⟨_he, _hq⟩))); (refine rtA ?_; try rfl)
  | false =>
    obtain ⟨a, _, ha, hK2⟩ := ex_pick l (c + 1) 10 (by omega)
    replace ha := ha (by omega)
    obtain ⟨r, hr, hb⟩ : ∃ r : Int, r = ([1, 2, 3, 3, 4, 4, 5, 6, 7, 8] : List Int).getD a.toNat 0 ∧ (-1 ≤ r ∧ r ≤ 9) := by
      refine ⟨_, rfl, ?_⟩
      obtain rfl | rfl | rfl | rfl | rfl | rfl | rfl | rfl | rfl | rfl : a = 0 ∨ a = 1 ∨ a = 2 ∨ a = 3 ∨ a = 4 ∨ a = 5 ∨ a = 6 ∨ a = 7 ∨ a = 8 ∨ a = 9 := by omega
      all_goals decide
    refine ⟨r, hb, ?_⟩
    obtain rfl | rfl | rfl | rfl | rfl | rfl | rfl | rfl | rfl | rfl : a = 0 ∨ a = 1 ∨ a = 2 ∨ a = 3 ∨ a = 4 ∨ a = 5 ∨ a = 6 ∨ a = 7 ∨ a = 8 ∨ a = 9 := by omega
    all_goals
      subst hr
      (refine kM Try.func38 rfl ?_; intro hfit hfe)
      (repeat (first | refine gq_KDL ?_ | (refine ga1A ?_; intro _q ⟨_he, _hq⟩)))
      (refine rtA ?_; try rfl)
end Go.Proofs.Ytalociocjjinlaa
