/- TRH: laid into one text. -/
import Derived.Test.YtgjnnlgeggamjaaQXEL
import Derived.Test.YtgjnnlgeggamjaaQXEZD

namespace Go.Proofs.Ytgjnnlgeggamjaa
set_option linter.unusedVariables false
set_option linter.unusedSimpArgs false
set_option maxRecDepth 20000
open Go.RowKit
attribute [local irreducible] runA runX AW
theorem gq_TRH {H G : Prop} (k : H) (h : Hid H → G := by (intro hh; repeat1' (first | (first | (refine nxA ?_; (first | fail | ((first | (refine z_op (by rfl) ?_; first | refine z_ok ?_ ?_ | refine z_ex ?_ (by first | exact zL1 | ((first | fail); exact zWW) | exact zL2 | (first | exact rw_c Int rfl) | exact zL3 | fail) ?_) | ((first | refine q_callE wsT wsZ (by rfl) ?_ | refine q_callVE wsT (by rfl) (by rfl) ?_); refine ⟨_, _, _, (by first | assumption), _, by rfl, ?_, ?_⟩)); focus (first | exact trivial | fail | exact zQZ)) | fail)) | refine swA ?_) | refine awA ?_); exact hh.out)) : G := h ⟨k⟩
def prO (F : Option RS) : List Int := match F with
  | none => []
  | some x => x.1
abbrev KPR (f : FuncId) (e : Option TypeId) (P : List Gt) (r : List Int) (F : Option RS) : Prop := Kon Try.prog f [roA P, roA r] [] (.tup [.one (.sl 0 0 (prO F).length), .one (.v (.bool F.isSome))]) [.row e 1 (cV (prO F))] []
theorem k_prS (P : List Gt) (h : P.length ≤ 2000000) (r : List Int) (hr : r.length ≤ 2000000) : KPR 21 (some 3) P r (fin P r) := by
  have hP := k_pvS P h
  have hR := k_rvS r hr
  cases hF : prs P with
  | none =>
    have hv : pvS P = false := by rw [pvS_prs, hF]; rfl
    have hfin : fin P r = none := by unfold fin; rw [hF]; split <;> rfl
    rw [hv] at hP
    rw [hfin]
    clear hF hfin hv
    (refine kM Try.func21 rfl ?_; intro hfit hfe)
    (repeat (first | refine gq_TRH ?_ | (refine ga0A ?_; intro _hq)))
    (refine rtA ?_; try rfl)
  | some t =>
    have hv : pvS P = true := by rw [pvS_prs, hF]; rfl
    obtain ⟨h16, hall, hfl, hwf, hdp, _⟩ := prs_t hF
    rw [hv] at hP
    cases hrb : rvB r with
    | false =>
      have hfin : fin P r = none := by unfold fin; rw [hrb]; rfl
      rw [hrb] at hR
      rw [hfin]
      clear hF hfin hv
      (refine kM Try.func21 rfl ?_; intro hfit hfe)
      (repeat (first | refine gq_TRH ?_ | (refine ga0A ?_; intro _hq)))
      (refine rtA ?_; try rfl)
    | true =>
      have hfin : fin P r = rs t (r, 0) := by unfold fin; rw [hrb, hF]; rfl
      have hrok := rvB_rok hrb
      rw [hrb] at hR
      rw [hfin]
      have hK := k_rnS _ t r rfl (by rw [hfl]; exact h16) hwf (by unfold lkA; rw [hfl]; exact hall) hrok
      unfold KRun at hK
      rw [hfl] at hK
      have hq := rv_rs t r 0
      clear hF hfin hv hfl hwf hall
      cases hs : rs t (r, 0) with
      | none =>
        rw [hs] at hq
        have hq : (rv t r).2 = false := hq
        rw [hq] at hK
        clear hs hq
        generalize (rv t r).1 = X at hK
        (refine kM Try.func21 rfl ?_; intro hfit hfe)
        (repeat (first | refine gq_TRH ?_ | (refine ga0A ?_; intro _hq)))
        (refine rtA ?_; try rfl)
      | some y =>
        rw [hs] at hq
        have hq : rv t r = (y.1, true) := hq
        rw [hq] at hK
        clear hs hq
        (refine kM Try.func21 rfl ?_; intro hfit hfe)
        (repeat (first | refine gq_TRH ?_ | (refine ga0A ?_; intro _hq)))
        (refine rtA ?_; try rfl)
end Go.Proofs.Ytgjnnlgeggamjaa
