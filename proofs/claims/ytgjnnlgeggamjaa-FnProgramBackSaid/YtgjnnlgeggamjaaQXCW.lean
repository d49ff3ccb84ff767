/- TRM: laid into one text. -/
import Derived.Test.YtgjnnlgeggamjaaQXCL
import Derived.Test.YtgjnnlgeggamjaaQXCV

namespace Go.Proofs.Ytgjnnlgeggamjaa
set_option linter.unusedVariables false
set_option linter.unusedSimpArgs false
set_option maxRecDepth 20000
open Go.RowKit
attribute [local irreducible] runA runX AW
def wsTQ : WsT := (16, ([], true)) :: wsT
theorem gq_TRM {H G : Prop} (k : H) (h : Hid H → G := by (intro hh; repeat1' (first | (first | (refine nxA ?_; (first | fail | ((first | (refine z_op (by rfl) ?_; first | refine z_ok ?_ ?_ | refine z_ex ?_ (by first | exact zL1 | ((first | fail); exact zWW) | exact zL2 | fail | exact zL3 | (first | exact pu_of (fun w => neq_line _ _ _ _ _ _ _ _ _ _ w) rfl)) ?_) | ((first | refine q_callE wsTQ wsZ (by rfl) ?_ | refine q_callVE wsTQ (by rfl) (by rfl) ?_); refine ⟨_, _, _, (by first | assumption | exact k_alive | exact k_pbI _ (by omega) | exact k_pbS1 _ (by omega) | exact k_pvS _ (by omega) | exact k_pvI _ (by omega) | exact k_sp _ (by omega)), _, by rfl, ?_, ?_⟩)); focus (first | exact trivial | fail | exact zQZ)) | fail)) | refine swA ?_) | refine awA ?_); exact hh.out)) : G := h ⟨k⟩
def geq (g h : Gt) : Bool := g.k == h.k && (g.a == h.a && (g.b == h.b && g.c == h.c))
theorem geq_refl (g : Gt) : geq g g = true := by simp [geq]
theorem k_sp (l : List Gt) (h : l.length ≤ 10000000) : Kon Try.prog 17 [roA l, roA l] [] (vB true) [] [] := by
  have h1 : ((l.length : Int) != (l.length : Int)) = false := by simp
  (refine kM Try.func17 rfl ?_; intro hfit hfe)
  (repeat (first | refine gq_TRM ?_ | (refine ga0A ?_; intro _hq)))
  (refine aw_rd [0, 1] [] (fun i : Nat => [(5, vI i)]) (fun _ => []) (fun i => i ≤ l.length) (fun i => l.length - i) 0 (by rfl) (by rfl) ?_ (by rfl) zHE zHE ?_)
  · exact Nat.zero_le _
  rintro i hi
  rcases Nat.lt_or_ge i l.length with h5 | h5
  · have hd : decide ((i : Int) < (l.length : Int)) = true := decide_eq_true (by omega)
    have hg : (!(geq (l.getD (i : Int).toNat Cel.no) (l.getD (i : Int).toNat Cel.no))) = false := by rw [geq_refl]; rfl
    unfold geq at hg
    (repeat (first | refine gq_TRM ?_ | (refine ga0A ?_; intro _hq) | refine gdA ?_))
    exact ⟨i + 1, h5, ⟨by rfl, zHE, zHE⟩, (by first | omega | (dsimp only; omega))⟩
  · have hd : decide ((i : Int) < (l.length : Int)) = false := decide_eq_false (by omega)
    (repeat (first | refine gq_TRM ?_ | (refine ga0A ?_; intro _hq) | refine gdA ?_))
    (refine rtA ?_; try rfl)
theorem pb_law {P : List Gt} (h : pvS P = true) : (pbB P).length = P.length ∧ pvS (pbB P) = true ∧ pbB (pbB P) = P := by
  rw [pvS_prs] at h
  cases hp : prs P with
  | none => rw [hp] at h; cases h
  | some t =>
    obtain ⟨h16, hall, hfl, hwf, hdp, _⟩ := prs_t hp
    obtain ⟨b1, b2, b3, b4, b5⟩ := bk_ok hwf (by unfold lkA; rw [hfl]; exact hall)
    have h1 : pbB P = fl (bk t) := by unfold pbB; rw [hp]
    have h2 : prs (fl (bk t)) = some (bk t) := prs_of b1 (by omega) (by rw [b3, hfl]; exact h16) b2
    rw [h1]
    refine ⟨by rw [b3, hfl], by rw [pvS_prs, h2]; rfl, ?_⟩
    unfold pbB; rw [h2]
    show fl (bk (bk t)) = P
    rw [b5, hfl]
set_option maxHeartbeats 4000000 in
theorem k_lawPB (l : List UInt8) : Kon Try.prog 4 [roA l] [] (vB true) [] [] := by
  rcases Nat.lt_or_ge 1048576 l.length with h0 | h0
  · have hd : decide ((l.length : Int) > 1048576) = true := decide_eq_true (by omega)
    (refine kM Try.func4 rfl ?_; intro hfit hfe)
    (repeat (first | refine gq_TRM ?_ | (refine ga0A ?_; intro _hq)))
    (refine rtA ?_; try rfl)
  have hd : decide ((l.length : Int) > 1048576) = false := decide_eq_false (by omega)
  obtain ⟨P, hP, hD⟩ := ex_dPB l (by omega)
  have hI := k_pbI P (by omega)
  have hS := k_pbS1 P (by omega)
  have hV := k_pvS P (by omega)
  cases hv : pvS P with
  | false =>
    rw [hv] at hV
    have e : pbB P = [] := by
      rw [pvS_prs] at hv
      unfold pbB
      cases hp : prs P with
      | none => rfl
      | some t => rw [hp] at hv; cases hv
    rw [e] at hI hS
    have hsp := k_sp ([] : List Gt) (by decide)
    clear e
    (refine kM Try.func4 rfl ?_; intro hfit hfe)
    (repeat (first | refine gq_TRM ?_ | (refine ga0A ?_; intro _hq)))
    (refine rtA ?_; try rfl)
  | true =>
    rw [hv] at hV
    obtain ⟨h1, h2, h3⟩ := pb_law hv
    have hlen := pbB_len P
    have hV2 := k_pvI (pbB P) (by omega)
    have hI2 := k_pbI (pbB P) (by omega)
    rw [h2] at hV2
    rw [h3] at hI2
    clear h2 h3
    generalize pbB P = X at *
    have hq : ((X.length : Int) == (P.length : Int)) = true := by rw [beq_iff_eq]; omega
    have hsp := k_sp X (by omega)
    have hsp2 := k_sp P (by omega)
    (refine kM Try.func4 rfl ?_; intro hfit hfe)
    (repeat (first | refine gq_TRM ?_ | (refine ga0A ?_; intro _hq)))
    (refine rtA ?_; try rfl)
end Go.Proofs.Ytgjnnlgeggamjaa
