/- KMR: laid into one text. -/
import Derived.Test.YtnenhckongccgaaGreatDoorQFV

namespace Go.Proofs.YtnenhckongccgaaGreatDoor
set_option linter.unusedVariables false
set_option linter.unusedSimpArgs false
set_option maxRecDepth 20000
open Go.RowKit
attribute [local irreducible] runA runX AW
def wsTX : WsT := (70, ([0], false)) :: (26, ([0], false)) :: wsT
def wsZX : List (Nat × Nat) := [(24, 4), (28, 4), (72, 4), (999999, 0)]
theorem gq_KMR {H G : Prop} (k : H) (h : Hid H → G := by (intro hh; repeat1' (first | (first | ((first | refine r_none ?_ | refine r_gt (by rfl) (by rfl) zDD (by rfl) ?_ | refine r_gf (by rfl) (by rfl) zDD (by rfl) ?_); (first | fail | ((first | (refine z_op (by rfl) ?_; first | refine z_ok ?_ ?_ | refine z_ex ?_ (by first | exact zL1 | ((first | fail); exact zWW) | exact zL2 | fail | exact zL3 | fail) ?_) | ((first | refine q_callE wsTX wsZX (by rfl) ?_ | refine q_callVE wsTX (by rfl) (by rfl) ?_); refine ⟨_, _, _, (by first | assumption | exact k_toBn _ _ _ _ _ (by omega) | exact k_eqBn _ _ _ _ _ (by omega) | exact k_toDeed _ | exact k_markBn _ _ _ _ _ _ _ (by first | exact ⟨rfl, by omega⟩ | omega) | exact k_markBn0 _ _ _ _), _, by rfl, ?_, ?_⟩)); focus (first | exact trivial | fail | exact zQZ)) | fail)) | refine r_nt (by rfl) (by rfl) zDD (by rfl) ?_ | refine r_nf (by rfl) (by rfl) zDD (by rfl) ?_ | refine r_gu (by rfl) (by rfl) (by rfl) ?_ | refine r_nil ?_) | (first | refine aw_seq ?_ | refine aw_ct (by rfl) zDD ?_ | refine aw_cf (by rfl) zDD ?_ | refine aw_block ?_ | refine aw_region T0ok cfU_ok (by rfl) ?_ | refine aw_skip ?_ | refine aw_exit ?_ | refine ra_step ?_)); exact hh.out)) : G := h ⟨k⟩
theorem ga_KMR {H G : Prop} (k : H) (h : Hid H → G := by (intro hh; (first | refine r_none ?_ | refine r_gt (by rfl) (by rfl) zDD (by rfl) ?_ | refine r_gf (by rfl) (by rfl) zDD (by rfl) ?_); refine z_op (by rfl) ?_; refine z_al ?_ hh.out; focus (first | exact trivial | fail | exact zQZ))) : G := h ⟨k⟩
abbrev gM (k : Int) : Gt := ⟨k, k + 1, k + 1 + 1, k + 1 + 1 + 1⟩
theorem mkG1_same (l : List Gt) (i : Nat) (k : Int) (h : i < l.length) : (mkG1 l i k).getD i Cel.no = gM k := by
  unfold mkG1
  simp [List.getD_eq_getElem?_getD, h]
theorem mkG1_ne (l : List Gt) (i j : Nat) (k : Int) (h : i ≠ j) : (mkG1 l i k).getD j Cel.no = l.getD j Cel.no := by
  unfold mkG1
  simp [List.getD_eq_getElem?_getD, List.getElem?_set_ne h]
theorem mkG_at (k : Int) (l : List Gt) : ∀ (i j : Nat), j < i → i ≤ l.length → (mkG k l i).getD j Cel.no = gM (k + 4 * (j : Int))
  | 0, j, h, _ => by omega
  | i + 1, j, h, hi => by
    rw [mkG]
    by_cases hj : j = i
    · subst hj
      exact mkG1_same _ _ _ (by rw [mkG_len]; omega)
    · rw [mkG1_ne _ _ _ _ (by omega)]
      exact mkG_at k l i j (by omega) (by omega)
set_option maxHeartbeats 2000000 in
theorem k_heldG (M : List Gt) (k : Int) (h : M.length ≤ 10000000 ∧ 0 ≤ k ∧ k ≤ 10000000) (hM : ∀ j, j < M.length → M.getD j Cel.no = gM (k + 4 * (j : Int))) : Kon Tryz.prog 72 [roA M, vI k] [] (vI (k + 4 * (M.length : Int))) [] [] := by
  (refine kM Tryz.func72 rfl ?_; intro hfit hfe)
  (repeat (first | refine gq_KMR ?_ | (refine ga_KMR ?_; intro _q ⟨_he, _hq⟩)))
  (refine aw_rd [0] [] (fun i : Nat => [(1, vI (k + 4 * (i : Int))), (5, vI i)]) (fun _ => []) (fun i => i ≤ M.length) (fun i => M.length - i) 0 (by rfl) (by rfl) ?_ (by rfl) zHE zHE ?_)
  · exact Nat.zero_le _
  rintro i hi
  rcases Nat.lt_or_ge i M.length with h5 | h5
  · have hd : decide ((i : Int) < (M.length : Int)) = true := decide_eq_true (by omega)
    have hg : M.getD (i : Int).toNat Cel.no = gM (k + 4 * (i : Int)) := hM i h5
    have f0 : ((M.getD (i : Int).toNat Cel.no).k != k + 4 * (i : Int)) = false := by rw [hg]; simp
    have f1 : ((M.getD (i : Int).toNat Cel.no).a != k + 4 * (i : Int) + 1) = false := by rw [hg]; simp
    have f2 : ((M.getD (i : Int).toNat Cel.no).b != k + 4 * (i : Int) + 1 + 1) = false := by rw [hg]; simp
    have f3 : ((M.getD (i : Int).toNat Cel.no).c != k + 4 * (i : Int) + 1 + 1 + 1) = false := by rw [hg]; simp
    clear hM hg
    have hinv : i + 1 ≤ M.length := h5
    (repeat (first | refine gq_KMR ?_ | (refine ga_KMR ?_; intro _q ⟨_he, _hq⟩)))
    exact ⟨i + 1, hinv, ⟨by rfl, zHE, zHE⟩, (by first | omega | (dsimp only; omega))⟩
  · obtain rfl : i = M.length := by omega
    have hd : decide ((M.length : Int) < (M.length : Int)) = false := decide_eq_false (by omega)
    (repeat (first | refine gq_KMR ?_ | (refine ga_KMR ?_; intro _q ⟨_he, _hq⟩)))
    (refine rtA ?_; try rfl)
theorem k_heldBn (n : Int) (M : List Gt) (f w a k : Int) (h : M.length ≤ 10000000 ∧ 0 ≤ k ∧ k ≤ 10000000) (hM : ∀ j, j < M.length → M.getD j Cel.no = gM (k + 4 * (j : Int))) : Kon Tryz.prog 28 [bG n M f w a, vI k] [] (vI (k + 4 * (M.length : Int))) [] [] := by
  have hK := k_heldG M k h hM
  have hd : decide (k + 4 * (M.length : Int) < 0) = false := decide_eq_false (by omega)
  clear hM
  (refine kM Tryz.func28 rfl ?_; intro hfit hfe)
  (repeat (first | refine gq_KMR ?_ | (refine ga_KMR ?_; intro _q ⟨_he, _hq⟩)))
  (refine rtA ?_; try rfl)
theorem k_markG0 : Kon Tryz.prog 70 [vN, vI 1] [] (vI 1) [] [] := by
  (refine kM Tryz.func70 rfl ?_; intro hfit hfe)
  (repeat (first | refine gq_KMR ?_ | (refine ga_KMR ?_; intro _q ⟨_he, _hq⟩)))
  refine aw_unroll 1 ?_
  (repeat (first | refine gq_KMR ?_ | (refine ga_KMR ?_; intro _q ⟨_he, _hq⟩)))
  (refine rtA ?_; try rfl)
theorem k_markBn0 (n f w a : Int) : Kon Tryz.prog 26 [.g (.agg [.v (.int .i64 n), .v (.slice none 0 0), .v (.int .i64 f), .v (.int .i64 w), .v (.int .i64 a)]), vI 1] [] (vI 1) [] [] := by
  have hK := k_markG0
  (refine kM Tryz.func26 rfl ?_; intro hfit hfe)
  (repeat (first | refine gq_KMR ?_ | (refine ga_KMR ?_; intro _q ⟨_he, _hq⟩)))
  (refine rtA ?_; try rfl)
end Go.Proofs.YtnenhckongccgaaGreatDoor
