/- TJF: laid into one text. -/
import Derived.Test.YtgjnnlgeggamjaaQXEZJ
import Derived.Test.YtgjnnlgeggamjaaQXEZK

namespace Go.Proofs.Ytgjnnlgeggamjaa
set_option linter.unusedVariables false
set_option linter.unusedSimpArgs false
set_option maxRecDepth 20000
open Go.RowKit
attribute [local irreducible] runA runX AW
def wsTV : WsT := (29, ([], true)) :: (32, ([], true)) :: wsTL
theorem gq_TJF {H G : Prop} (k : H) (h : Hid H → G := by (intro hh; repeat1' (first | (first | (refine nxA ?_; (first | fail | ((first | (refine z_op (by rfl) ?_; first | refine z_ok ?_ ?_ | refine z_ex ?_ (by first | exact zL1 | ((first | fail); exact zWW) | exact zL2 | (first | exact rw_c Gt rfl | exact rw_c Int rfl) | exact zL3 | fail) ?_) | ((first | refine q_callE wsTV wsZ (by rfl) ?_ | refine q_callVE wsTV (by rfl) (by rfl) ?_); refine ⟨_, _, _, (by first | assumption | exact k_toL _ (by omega) | exact k_eqG _ (by omega) | exact k_toI _ (by omega) | exact k_eqIs _ (by omega) | exact k_alive), _, by rfl, ?_, ?_⟩)); focus (first | exact trivial | fail | exact zQZ)) | fail)) | refine swA ?_) | refine awA ?_); exact hh.out)) : G := h ⟨k⟩
theorem k_stS (P : List Gt) (h : P.length ≤ 2000000) (r : List Int) (hr : r.length ≤ 2000000) : Kon Try.prog 27 [roA P, roA r] [] (vI (stO (fin P r))) [] [] := by
  have hS := k_prS P h r hr
  cases hF : fin P r with
  | none =>
    rw [hF] at hS
    clear hF
    (refine kM Try.func27 rfl ?_; intro hfit hfe)
    (repeat (first | refine gq_TJF ?_ | (refine ga0A ?_; intro _hq)))
    (refine rtA ?_; try rfl)
  | some y =>
    rw [hF] at hS
    obtain ⟨t, hp, hr4, hy4, hs, hwf, hlk, hfl, hdp, h16⟩ := fin_some hF
    have hK := k_ssS _ t r y rfl (by rw [hfl]; exact h16) hwf hlk hr4 hs
    unfold KSt at hK
    rw [hfl] at hK
    clear hF hs hp hwf hlk hfl
    show Kon _ _ _ _ (vI (y.2 : Int)) _ _
    (refine kM Try.func27 rfl ?_; intro hfit hfe)
    (repeat (first | refine gq_TJF ?_ | (refine ga0A ?_; intro _hq)))
    (refine rtA ?_; try rfl)
set_option maxHeartbeats 4000000 in
theorem k_lawXPS (P : List Gt) (hP : P.length ≤ 9223372036854775807) (r : List Int) : Kon Try.prog 6 [roA P, roA r] [] (vB true) [] [] := by
  rcases Nat.lt_or_ge 1048576 r.length with hr0 | hr0
  · have hr1 : decide ((r.length : Int) > 1048576) = true := decide_eq_true (by omega)
    (refine kM Try.func6 rfl ?_; intro hfit hfe)
    (repeat (first | refine gq_TJF ?_ | (refine ga0A ?_; intro _hq)))
    (refine rtA ?_; try rfl)
  have hr1 : decide ((r.length : Int) > 1048576) = false := decide_eq_false (by omega)
  rcases Nat.lt_or_ge 1048576 P.length with h0 | h0
  · have hz := k_szL P 1048576 ⟨hP, by omega, by omega⟩
    rw [if_pos (by omega)] at hz
    (refine kM Try.func6 rfl ?_; intro hfit hfe)
    (repeat (first | refine gq_TJF ?_ | (refine ga0A ?_; intro _hq)))
    (refine rtA ?_; try rfl)
  have hz := k_szL P 1048576 ⟨hP, by omega, by omega⟩
  rw [if_neg (by omega)] at hz
  have hd : decide ((1048576 : Int) - (P.length : Int) < 0) = false := decide_eq_false (by omega)
  have hI := k_stI P (by omega) r (by omega)
  have hS := k_stS P (by omega) r (by omega)
  generalize stO (fin P r) = X at *
  have hx : (X != X) = false := by simp
  (refine kM Try.func6 rfl ?_; intro hfit hfe)
  (repeat (first | refine gq_TJF ?_ | (refine ga0A ?_; intro _hq)))
  (refine rtA ?_; try rfl)
theorem ex_dPS (l : List UInt8) (hl : l.length ≤ 100000000) : ∃ (P : List Gt) (r : List Int), P.length ≤ 100 ∧ r.length ≤ 4 ∧ Kon Try.prog 32 [roA l] [] (.tup [.one (.sl 0 0 P.length), .one (.ro (Cel.sz Int) r.length (cV r))]) [rwE 47 P] [] := by
  obtain ⟨P, r, hP, hr, hD⟩ := ex_dPR l hl
  refine ⟨P, r, hP, hr, ?_⟩
  (refine kM Try.func32 rfl ?_; intro hfit hfe)
  (repeat (first | refine gq_TJF ?_ | (refine ga0A ?_; intro _hq)))
  (refine rtA ?_; try rfl)
set_option maxHeartbeats 8000000 in
theorem k_lawPS (l : List UInt8) : Kon Try.prog 8 [roA l] [] (vB true) [] [] := by
  rcases Nat.lt_or_ge 1048576 l.length with h0 | h0
  · have hd : decide ((l.length : Int) > 1048576) = true := decide_eq_true (by omega)
    (refine kM Try.func8 rfl ?_; intro hfit hfe)
    (repeat (first | refine gq_TJF ?_ | (refine ga0A ?_; intro _hq)))
    (refine rtA ?_; try rfl)
  have hd : decide ((l.length : Int) > 1048576) = false := decide_eq_false (by omega)
  obtain ⟨P, r, hP, hr, hD⟩ := ex_dPS l (by omega)
  have hI := k_stI P (by omega) r (by omega)
  have hS := k_stS P (by omega) r (by omega)
  have hR := k_prI P (by omega) r (by omega)
  cases hF : fin P r with
  | none =>
    rw [hF] at hI hS hR
    have e1 : stO none = -1 := rfl
    rw [e1] at hI hS
    clear hF e1
    (refine kM Try.func8 rfl ?_; intro hfit hfe)
    (repeat (first | refine gq_TJF ?_ | (refine ga0A ?_; intro _hq)))
    (refine rtA ?_; try rfl)
  | some y =>
    rw [hF] at hI hS hR
    obtain ⟨t, _, hr4, hy4, _, _, _, _, _, h16⟩ := fin_some hF
    have hPB := k_pbI P (by omega)
    have hBk := k_stI (pbB P) (by have := pbB_len P; omega) y.1 (by have := hy4.1; omega)
    rw [fin_back hF] at hBk
    have e1 : stO (some y) = (y.2 : Int) := rfl
    have e2 : stO (some (r, y.2)) = (y.2 : Int) := rfl
    rw [e1] at hI hS
    rw [e2] at hBk
    have hx : (((y.2 : Nat) : Int) != (y.2 : Int)) = false := by simp
    have hx2 : (((y.2 : Nat) : Int) == (y.2 : Int)) = true := by simp
    have hx3 : decide (((y.2 : Nat) : Int) < 0) = false := decide_eq_false (by omega)
    clear hF e1 e2
    (refine kM Try.func8 rfl ?_; intro hfit hfe)
    (repeat (first | refine gq_TJF ?_ | (refine ga0A ?_; intro _hq)))
    (refine rtA ?_; try rfl)
    rw [hx2]; rfl
end Go.Proofs.Ytgjnnlgeggamjaa
