/- TJB: laid into one text. -/
import Derived.Test.YtgjnnlgeggamjaaQXDZB
import Derived.Test.YtgjnnlgeggamjaaQXDZC

namespace Go.Proofs.Ytgjnnlgeggamjaa
set_option linter.unusedVariables false
set_option linter.unusedSimpArgs false
set_option maxRecDepth 20000
open Go.RowKit
attribute [local irreducible] runA runX AW
theorem gq_TJB {H G : Prop} (k : H) (h : Hid H → G := by (intro hh; repeat1' (first | (first | (refine nxA ?_; (first | fail | ((first | (refine z_op (by rfl) ?_; first | refine z_ok ?_ ?_ | refine z_ex ?_ (by first | exact zL1 | ((first | fail); exact zWW) | exact zL2 | fail | exact zL3 | fail) ?_) | ((first | refine q_callE wsTL wsZ (by rfl) ?_ | refine q_callVE wsTL (by rfl) (by rfl) ?_); refine ⟨_, _, _, (by first | assumption | exact k_toL _ (by omega) | exact k_eqG _ (by omega) | exact k_toI _ (by omega) | exact k_eqIs _ (by omega)), _, by rfl, ?_, ?_⟩)); focus (first | exact trivial | fail | exact zQZ)) | fail)) | refine swA ?_) | refine awA ?_); exact hh.out)) : G := h ⟨k⟩
abbrev iN (l : List Int) : Ent := .row none (Cel.sz Int) (cV l)
theorem k_markIN (l : List Int) (n : Nat) (k : Int) (h : n = l.length ∧ 0 ≤ k ∧ k ≤ 10000000 ∧ l.length ≤ 10000000) : Kon Try.prog 25 [.g (.one (.sl 100000 0 n)), vI k] [iN l] (vI (k + (l.length : Int))) [] [iN (mkI k l l.length)] := by
  obtain ⟨rfl, h⟩ := h
  (refine kM Try.func25 rfl ?_; intro hfit hfe)
  (repeat (first | refine gq_TJB ?_ | (refine ga0A ?_; intro _hq)))
  refine aw_rd [0] [] (fun i : Nat => [(1, vI (k + (i : Int))), (5, vI i)]) (fun i => [(100000, (0, iN (mkI k l i)))]) (fun i => i ≤ l.length) (fun i => l.length - i) 0 (by rfl) (by rfl) ?_ (by rfl) zHE ⟨by (simp only [St.put, Gin, Nat.le_refl, if_true, Nat.sub_self]; rfl), trivial⟩ ?_
  · exact Nat.zero_le _
  rintro i hi
  have hl2 := mkI_len k l i
  rcases Nat.lt_or_ge i l.length with h1 | h1
  · have hd : decide ((i : Int) < (l.length : Int)) = true := decide_eq_true (by omega)
    have hinv : i + 1 ≤ l.length := h1
    (repeat (first | refine gq_TJB ?_ | (refine ga0A ?_; intro _hq)))
    exact ⟨i + 1, hinv, ⟨by rfl, zHE, zHE⟩, (by first | omega | (dsimp only; omega))⟩
  · obtain rfl : i = l.length := by omega
    have hd : decide ((l.length : Int) < (l.length : Int)) = false := decide_eq_false (by omega)
    (repeat (first | refine gq_TJB ?_ | (refine ga0A ?_; intro _hq)))
    (refine rtA ?_; try rfl)
theorem prO_len (P : List Gt) (r : List Int) : (prO (fin P r)).length ≤ 4 := by
  cases h : fin P r with
  | none => exact Nat.zero_le _
  | some x =>
    show x.1.length ≤ 4
    unfold fin at h
    split at h
    · rename_i hr
      cases hp : prs P with
      | none => rw [hp] at h; cases h
      | some t =>
        rw [hp] at h
        obtain ⟨h16, hall, hfl, hwf, hdp, _⟩ := prs_t hp
        exact Nat.le_of_eq (bck hwf (by unfold lkA; rw [hfl]; exact hall) (r, 0) x (rvB_rok hr) h).1.1
    · cases h
set_option maxHeartbeats 8000000 in
theorem k_lawXPR (P : List Gt) (hP : P.length ≤ 9223372036854775807) (r : List Int) : Kon Try.prog 5 [roA P, roA r] [] (vB true) [] [] := by
  rcases Nat.lt_or_ge 1048576 r.length with hr0 | hr0
  · have hr1 : decide ((r.length : Int) > 1048576) = true := decide_eq_true (by omega)
    (refine kM Try.func5 rfl ?_; intro hfit hfe)
    (repeat (first | refine gq_TJB ?_ | (refine ga0A ?_; intro _hq)))
    (refine rtA ?_; try rfl)
  have hr1 : decide ((r.length : Int) > 1048576) = false := decide_eq_false (by omega)
  rcases Nat.lt_or_ge 1048576 P.length with h0 | h0
  · have hz := k_szL P 1048576 ⟨hP, by omega, by omega⟩
    rw [if_pos (by omega)] at hz
    (refine kM Try.func5 rfl ?_; intro hfit hfe)
    (repeat (first | refine gq_TJB ?_ | (refine ga0A ?_; intro _hq)))
    (refine rtA ?_; try rfl)
  have hz := k_szL P 1048576 ⟨hP, by omega, by omega⟩
  rw [if_neg (by omega)] at hz
  have hd : decide ((1048576 : Int) - (P.length : Int) < 0) = false := decide_eq_false (by omega)
  have hI := k_prI P (by omega) r (by omega)
  have hS := k_prS P (by omega) r (by omega)
  have hlen := prO_len P r
  unfold KPR at hI hS
  generalize prO (fin P r) = cs at *
  generalize (fin P r).isSome = b at *
  have hbb : (b != b) = false := by simp
  have hMP := k_markG P P.length 1 ⟨rfl, by omega⟩
  have hMR := k_markI r r.length (1 + 4 * (P.length : Int)) ⟨rfl, by omega⟩
  have hk0 : decide (1 + 4 * (P.length : Int) + (r.length : Int) < 0) = false := decide_eq_false (by omega)
  have hH : Kon Try.prog 26 [.g (.one (.ro (Cel.sz Int) (mkI 1 cs cs.length).length (cV (mkI 1 cs cs.length)))), vI 1] [] (vI (1 + ((mkI 1 cs cs.length).length : Int))) [] [] := k_heldI (mkI 1 cs cs.length) 1 (by rw [mkI_len]; omega) (fun j hj => mkI_at 1 cs cs.length j (by rw [mkI_len] at hj; exact hj) (Nat.le_refl _))
  rw [mkI_len] at hH
  have hMG := k_markIN cs cs.length 1 ⟨rfl, by omega⟩
  have hml := mkI_len 1 cs cs.length
  generalize mkI 1 cs cs.length = X' at *
  have hd2 : decide (1 + (cs.length : Int) < 0) = false := decide_eq_false (by omega)
  have hq : ((1 + (cs.length : Int)) != 1 + (cs.length : Int)) = false := by simp
  (refine kM Try.func5 rfl ?_; intro hfit hfe)
  (repeat (first | refine gq_TJB ?_ | (refine ga0A ?_; intro _hq)))
  (refine rtA ?_; try rfl)
end Go.Proofs.Ytgjnnlgeggamjaa
