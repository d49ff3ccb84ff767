/- LTB: laid into one text. -/
import Derived.Test.YtfbcblknahicdaaQXFK
import Derived.Test.YtfbcblknahicdaaQXFU

namespace Go.Proofs.Ytfbcblknahicdaa
set_option linter.unusedVariables false
set_option linter.unusedSimpArgs false
set_option maxRecDepth 20000
open Go.RowKit
attribute [local irreducible] runA runX AW
theorem gq_LTB {H G : Prop} (k : H) (h : Hid H → G := by (intro hh; repeat1' (first | (first | (refine nxA ?_; (first | fail | ((first | (refine z_op (by rfl) ?_; first | refine z_ok ?_ ?_ | refine z_ex ?_ (by first | exact zL1 | ((first | fail); exact zWW) | exact zL2 | exact rw_c Int rfl | exact zL3 | exact ct_t (l := ordN q 0 k) rfl rfl rfl (by omega) (by rw [hl]; simp; omega)) ?_) | ((first | refine q_callE wsT wsZ (by rfl) ?_ | refine q_callVE wsT (by rfl) (by rfl) ?_); refine ⟨_, _, _, (by first | assumption | exact k_pick _ _ _ (by omega) | exact k_odd _ _ _ (by omega) | exact k_open _ (by omega)), _, by rfl, ?_, ?_⟩)); focus (first | exact trivial | fail | exact zQZ)) | fail)) | refine swA ?_) | refine awA ?_); exact hh.out)) : G := h ⟨k⟩
theorem gs_LTB {H G : Prop} (k : H) (h : Hid H → G := by (intro hh; repeat1' (first | (refine nxA ?_; (first | fail | ((first | (refine z_op (by rfl) ?_; first | refine z_ok ?_ ?_ | refine z_ex ?_ (by first | exact zL1 | ((first | fail); exact zWW) | exact zL2 | exact rw_c Int rfl | exact zL3 | exact ct_t (l := ordN q 0 k) rfl rfl rfl (by omega) (by rw [hl]; simp; omega)) ?_) | ((first | refine q_callE wsT wsZ (by rfl) ?_ | refine q_callVE wsT (by rfl) (by rfl) ?_); refine ⟨_, _, _, (by first | assumption | exact k_pick _ _ _ (by omega) | exact k_odd _ _ _ (by omega) | exact k_open _ (by omega)), _, by rfl, ?_, ?_⟩)); focus (first | exact trivial | fail | exact zQZ)) | fail)) | refine swA ?_); exact hh.out)) : G := h ⟨k⟩
set_option maxHeartbeats 4000000 in
theorem ex_dLT (l0 : List UInt8) (hl0 : l0.length ≤ 100000000) : ∃ t : List Int, t.length ≤ 5 ∧ Kon Try.prog 4 [roA l0] [] (slA 0 0 t) [rwE 3 t] [] := by
  obtain ⟨q, hq⟩ : ∃ q, l0.take 2000 = q := ⟨_, rfl⟩
  have h2 : q.length ≤ 2000 := by rw [← hq]; simp; omega
  have hl4 := ordN_len q 0 4
  have hO := k_odd q 4 9 (by omega)
  obtain ⟨b, hb⟩ : ∃ b, (pickI q 4 9 == 9 - 1) = b := ⟨_, rfl⟩
  rw [hb] at hO
  have hop : Kon Try.prog 13 [roA l0] [] (.g (.one (.ptr 0 0 0))) [rdE q 0] [] := by
    have := k_open l0 (by omega)
    rw [hq] at this
    exact this
  clear hb hq
  refine ⟨if b = true then ordN q 0 4 ++ [4] else ordN q 0 4, by split <;> simp [hl4], ?_⟩
  (refine kM Try.func4 rfl ?_; intro hfit hfe)
  (repeat (first | refine gq_LTB ?_ | (refine ga0A ?_; intro _hq)))
  refine aw_rd [3] [] (fun k : Nat => [(4, .g (.one (.sl 160 (2 * k) k))), (5, vI k)]) (fun k => [(160, (2 * k, iRow (ordN q 0 k))), (144, (0, rdE q (k : Int)))]) (fun k => k ≤ 4) (fun k => 4 - k) 0 (by rfl) (by rfl) ?_ (by rfl) zHE ⟨by rfl, by rfl, zHE⟩ ?_
  · exact Nat.zero_le _
  rintro k hk
  rcases Nat.lt_or_ge k 4 with h7 | h7
  · have hd : decide ((k : Int) < 4) = true := decide_eq_true (by omega)
    have hp := pickI_lt (l := q) (c := (k : Int)) (n := (k : Int) + 1) (by omega)
    have hl := ordN_len q 0 k
    have hcl : (cV (ordN q 0 k)).length = k := by rw [cV_len, hl]; exact Nat.mul_one k
    have hz1 : k * Cel.sz Int = k := Nat.mul_one k
    repeat (first | refine aw_seq ?_ | refine aw_ct (by rfl) zDD ?_ | refine aw_cf (by rfl) zDD ?_ | refine aw_block ?_ | refine aw_region T0ok cfU_ok (by rfl) ?_ | refine aw_skip ?_ | refine aw_exit ?_ | refine ra_step ?_)
    (repeat (first | refine gs_LTB ?_ | (refine ga0A ?_; intro _hq)))
    repeat (first | refine aw_seq ?_ | refine aw_ct (by rfl) zDD ?_ | refine aw_cf (by rfl) zDD ?_ | refine aw_block ?_ | refine aw_region T0ok cfU_ok (by rfl) ?_ | refine aw_skip ?_ | refine aw_exit ?_ | refine ra_step ?_)
    (repeat (first | refine gs_LTB ?_ | (refine ga0A ?_; intro _hq)))
    refine aw_seq ?_
    refine wx_region ?_
    refine wx_run 3 T0ok cfU_ok (by rfl) ?_
    (repeat (first | refine gs_LTB ?_ | (refine ga0A ?_; intro _hq)))
    refine wx_pieceC (α := Int) (l := ordN q 0 k) (l2 := []) T0ok (by rfl) (by rfl) (by rfl) (by rfl) (by rfl) (by rfl) (by rfl) (by rfl) (by rfl) (by rfl) (by rfl) ⟨hl.symm, rfl, by omega, by omega, by omega, by simp⟩ ?_
    refine wx_end T0ok cfU_ok (i := 5) (by rfl) ?_
    (repeat (first | refine gq_LTB ?_ | (refine ga0A ?_; intro _hq)))
    have hc0 : (0 : Int) + (k : Int) = k := by omega
    exact ⟨k + 1, h7, ⟨by rfl, ⟨Eq.trans (b := some (.g (.one (.sl 160 (2 * (k + 1)) (ordN q 0 (k + 1)).length)))) (by rw [ordN, hc0]; rfl) (by rw [ordN_len]), zHE⟩, ⟨by rw [ordN, hc0]; rfl, zHE⟩⟩, (by first | omega | (dsimp only; omega))⟩
  · have hd : decide ((k : Int) < 4) = false := decide_eq_false (by omega)
    obtain rfl : k = 4 := by omega
    have hl := hl4
    cases b with
    | true =>
      rw [if_pos rfl]
      (repeat (first | refine gq_LTB ?_ | (refine ga0A ?_; intro _hq)))
      (refine rtA ?_; try rfl)
    | false =>
      rw [if_neg (by decide)]
      (repeat (first | refine gq_LTB ?_ | (refine ga0A ?_; intro _hq)))
      (refine rtA ?_; try rfl)
      exact congrArg (fun n => AV.g (.one (.sl 0 0 n))) hl.symm
end Go.Proofs.Ytfbcblknahicdaa
