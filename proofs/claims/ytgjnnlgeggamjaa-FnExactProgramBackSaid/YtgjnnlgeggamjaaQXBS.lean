/- TRY: laid into one text. -/
import Derived.Test.YtgjnnlgeggamjaaQXBM
import Derived.Test.YtgjnnlgeggamjaaQXBR

namespace Go.Proofs.Ytgjnnlgeggamjaa
set_option linter.unusedVariables false
set_option linter.unusedSimpArgs false
set_option maxRecDepth 20000
open Go.RowKit
attribute [local irreducible] runA runX AW
theorem gq_TRY {H G : Prop} (k : H) (h : Hid H → G := by (intro hh; repeat1' (first | (first | (refine nxA ?_; (first | fail | ((first | (refine z_op (by rfl) ?_; first | refine z_ok ?_ ?_ | refine z_ex ?_ (by first | exact zL1 | ((first | fail); exact zWW) | exact zL2 | fail | exact zL3 | fail) ?_) | ((first | refine q_callE wsTL wsZ (by rfl) ?_ | refine q_callVE wsTL (by rfl) (by rfl) ?_); refine ⟨_, _, _, (by first | assumption | exact k_toL _ (by omega) | exact k_eqG _ (by omega) | exact k_pbI _ (by omega)), _, by rfl, ?_, ?_⟩)); focus (first | exact trivial | fail | exact zQZ)) | fail)) | refine swA ?_) | refine awA ?_); exact hh.out)) : G := h ⟨k⟩
theorem k_pbS1 (P : List Gt) (h : P.length ≤ 2000000) : Kon Try.prog 10 [roA P] [] (slA 0 0 (pbB P)) [rwE 47 (pbB P)] [] := by
  cases hp : prs P with
  | none =>
    have h1 := k_pbS0 P h (by rw [pvS_prs, hp]; rfl)
    unfold pbB; rw [hp]; exact h1
  | some t =>
    have h1 := k_pbS P h (by rw [pvS_prs, hp]; rfl)
    obtain ⟨h16, hall, hfl, hwf, hdp, _⟩ := prs_t hp
    have h2 := sbS_bk t [] [] hwf (by unfold lkA; rw [hfl]; exact hall)
    rw [List.nil_append, List.append_nil, hfl] at h2
    unfold pbB; rw [hp]
    rw [show ([] : List Gt).length = 0 from rfl] at h2
    rw [h2] at h1
    exact h1
theorem pbB_len (P : List Gt) : (pbB P).length ≤ 16 := by
  unfold pbB
  cases hp : prs P with
  | none => exact Nat.zero_le _
  | some t =>
    obtain ⟨h16, hall, hfl, hwf, hdp, _⟩ := prs_t hp
    have := (bk_ok hwf (by unfold lkA; rw [hfl]; exact hall)).2.2.1
    show (fl (bk t)).length ≤ 16
    rw [this, hfl]; exact h16
set_option maxHeartbeats 4000000 in
theorem k_lawXPB (P : List Gt) (hP : P.length ≤ 9223372036854775807) : Kon Try.prog 3 [roA P] [] (vB true) [] [] := by
  rcases Nat.lt_or_ge 1048576 P.length with h0 | h0
  · have hz := k_szL P 1048576 ⟨hP, by omega, by omega⟩
    rw [if_pos (by omega)] at hz
    (refine kM Try.func3 rfl ?_; intro hfit hfe)
    (repeat (first | refine gq_TRY ?_ | (refine ga0A ?_; intro _hq)))
    (refine rtA ?_; try rfl)
  have hz := k_szL P 1048576 ⟨hP, by omega, by omega⟩
  rw [if_neg (by omega)] at hz
  have hd : decide ((1048576 : Int) - (P.length : Int) < 0) = false := decide_eq_false (by omega)
  have hI := k_pbI P (by omega)
  have hS := k_pbS1 P (by omega)
  have hlen := pbB_len P
  generalize pbB P = cs at *
  have hMP := k_markG P P.length 1 ⟨rfl, by omega⟩
  have hk0 : decide (1 + 4 * (P.length : Int) < 0) = false := decide_eq_false (by omega)
  have hH : Kon Try.prog 15 [.g (.one (.ro (Cel.sz Gt) (mkG 1 cs cs.length).length (cV (mkG 1 cs cs.length)))), vI 1] [] (vI (1 + 4 * ((mkG 1 cs cs.length).length : Int))) [] [] := k_heldG (mkG 1 cs cs.length) 1 (by rw [mkG_len]; omega) (fun j hj => mkG_at 1 cs cs.length j (by rw [mkG_len] at hj; exact hj) (Nat.le_refl _))
  rw [mkG_len] at hH
  have hMG := k_markG cs cs.length 1 ⟨rfl, by omega⟩
  have hml := mkG_len 1 cs cs.length
  generalize mkG 1 cs cs.length = X' at *
  have hd2 : decide (1 + 4 * (cs.length : Int) < 0) = false := decide_eq_false (by omega)
  have hq : ((1 + 4 * (cs.length : Int)) != 1 + 4 * (cs.length : Int)) = false := by simp
  (refine kM Try.func3 rfl ?_; intro hfit hfe)
  (repeat (first | refine gq_TRY ?_ | (refine ga0A ?_; intro _hq)))
  (refine rtA ?_; try rfl)
end Go.Proofs.Ytgjnnlgeggamjaa
