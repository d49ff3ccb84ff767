/- KTC: laid into one text. -/
import Derived.Test.YtfbcblknahicdaaQXFK
import Derived.Test.YtfbcblknahicdaaQXFL

namespace Go.Proofs.Ytfbcblknahicdaa
set_option linter.unusedVariables false
set_option linter.unusedSimpArgs false
set_option maxRecDepth 20000
open Go.RowKit
attribute [local irreducible] runA runX AW
theorem gq_KTC {H G : Prop} (k : H) (h : Hid H → G := by (intro hh; repeat1' (first | (first | (refine nxA ?_; (first | fail | ((first | (refine z_op (by rfl) ?_; first | refine z_ok ?_ ?_ | refine z_ex ?_ (by first | exact zL1 | ((first | fail); exact zWW) | exact zL2 | fail | exact zL3 | fail) ?_) | ((first | refine q_callE wsT wsZ (by rfl) ?_ | refine q_callVE wsT (by rfl) (by rfl) ?_); refine ⟨_, _, _, (by first | assumption | exact k_l1In _ _ _ | exact k_has _ _ (by omega)), _, by rfl, ?_, ?_⟩)); focus (first | exact trivial | fail | exact zQZ)) | fail)) | refine swA ?_) | refine awA ?_); exact hh.out)) : G := h ⟨k⟩
theorem take_j {l : List Int} {k : Nat} (h : k < l.length) : l.take (k + 1) = l.take k ++ [l.getD k 0] := by
  rw [List.take_succ_eq_append_getElem h]
  simp [List.getD_eq_getElem?_getD, h]
set_option maxHeartbeats 4000000 in
theorem k_tvS (n : Int) (t : List Int) (hr : -9223372036854775808 ≤ n ∧ n ≤ 9223372036854775807) (h : t.length ≤ 1000) : Kon Try.prog 18 [vI n, roA t] [] (vB (tvB n t)) [] [] := by
  unfold tvB
  cases hn : btw n 1 8 with
  | false =>
    (refine kM Try.func18 rfl ?_; intro hfit hfe)
    (repeat (first | refine gq_KTC ?_ | (refine ga0A ?_; intro _hq)))
    (refine rtA ?_; try rfl)
  | true =>
  have hn' := btw_t hn
  have h8 := pow_8 hn'
  rw [Bool.true_and]
  cases hl : ((t.length : Int) == 2 ^ n.toNat) with
  | false =>
    have hl2 : ((t.length : Int) != 1 * 2 ^ n.toNat) = true := by rw [Int.one_mul, bne, hl]; rfl
    (refine kM Try.func18 rfl ?_; intro hfit hfe)
    (repeat (first | refine gq_KTC ?_ | (refine ga0A ?_; intro _hq)))
    (refine rtA ?_; try rfl)
  | true =>
  have hl2 : ((t.length : Int) != 1 * 2 ^ n.toNat) = false := by rw [Int.one_mul, bne, hl]; rfl
  have hlN : (t.length : Int) = 2 ^ n.toNat := beq_iff_eq.1 hl
  rw [Bool.true_and]
  (refine kM Try.func18 rfl ?_; intro hfit hfe)
  (repeat (first | refine gq_KTC ?_ | (refine ga0A ?_; intro _hq)))
  (refine aw_rd [0, 1] [] (fun i : Nat => [(5, vI i)]) (fun _ => []) (fun i => i ≤ t.length ∧ (∀ x ∈ t.take i, 0 ≤ x ∧ x < (t.length : Int)) ∧ tvL (t.length : Int) (seenL (List.replicate t.length false) (t.take i)) (t.drop i) = tvL (t.length : Int) (List.replicate t.length false) t) (fun i => t.length - i) 0 (by rfl) (by rfl) ?_ (by rfl) zHE zHE ?_)
  · exact ⟨Nat.zero_le _, by simp, rfl⟩
  rintro i ⟨hi, hp, hz⟩
  rcases Nat.lt_or_ge i t.length with h5 | h5
  · have hd : decide ((i : Int) < (t.length : Int)) = true := by simpa using h5
    have hlt : (t.take i).length ≤ 1000 := by rw [List.length_take]; omega
    have hH := k_has (t.take i) (t.getD (i : Int).toNat Cel.no) (by omega)
    have hW := k_wvS2 n (t.getD (i : Int).toNat Cel.no)
    have hti := take_j h5
    rw [tvL_drop h5] at hz
    have hwv : wvB n (t.getD (i : Int).toNat Cel.no) = btw (t.getD i 0) 0 ((t.length : Int) - 1) := by
      unfold wvB; rw [hn, Bool.true_and, hlN]; rfl
    rw [hwv] at hW
    cases hb : btw (t.getD i 0) 0 ((t.length : Int) - 1) with
    | false =>
      rw [hb] at hW
      rw [hb, Bool.false_and, Bool.false_and] at hz
      rw [← hz]
      clear hz hp hti
      (repeat (first | refine gq_KTC ?_ | (refine ga0A ?_; intro _hq)))
      (refine aw_draw mixed T0ok cfU_ok [] (by rfl) (by kernel_rfl) ?_)
      (repeat (first | refine gq_KTC ?_ | (refine ga0A ?_; intro _hq)))
      (refine rtA ?_; try rfl)
    | true =>
      rw [hb] at hW
      have hb' := btw_t hb
      rw [hb, Bool.true_and] at hz
      have hsn := seenL_at (t.take i) (List.replicate t.length false) (t.getD i 0) (by rw [List.length_replicate]; exact hp) hb'.1
      have hr0 : (List.replicate t.length false).getD (t.getD i 0).toNat false = false := by
        rw [List.getD_eq_getElem?_getD]
        cases hq : (List.replicate t.length false)[(t.getD i 0).toNat]? with
        | none => rfl
        | some v => have := List.eq_of_mem_replicate (List.mem_of_getElem? hq); rw [this]; rfl
      rw [hr0, Bool.false_or] at hsn
      have hhas : hasB (t.take i) (t.getD (i : Int).toNat Cel.no) = (t.take i).any (· == t.getD i 0) := rfl
      cases hv : (t.take i).any (· == t.getD i 0) with
      | true =>
        rw [hsn, hv, Bool.not_true, Bool.false_and] at hz
        rw [hhas, hv] at hH
        rw [← hz]
        clear hz hp hti hsn
        (repeat (first | refine gq_KTC ?_ | (refine ga0A ?_; intro _hq)))
        (refine aw_draw mixed T0ok cfU_ok [] (by rfl) (by kernel_rfl) ?_)
        (repeat (first | refine gq_KTC ?_ | (refine ga0A ?_; intro _hq)))
        (refine rtA ?_; try rfl)
      | false =>
        rw [hsn, hv, Bool.not_false, Bool.true_and, ← seenL_snoc, ← hti] at hz
        rw [hhas, hv] at hH
        have hp2 : ∀ x ∈ t.take (i + 1), 0 ≤ x ∧ x < (t.length : Int) := by
          intro x hx
          rw [hti] at hx
          rcases List.mem_append.1 hx with hx | hx
          · exact hp x hx
          · rw [List.mem_singleton] at hx; subst hx; omega
        have hinv : i + 1 ≤ t.length ∧ (∀ x ∈ t.take (i + 1), 0 ≤ x ∧ x < (t.length : Int)) ∧ tvL (t.length : Int) (seenL (List.replicate t.length false) (t.take (i + 1))) (t.drop (i + 1)) = tvL (t.length : Int) (List.replicate t.length false) t := ⟨h5, hp2, hz⟩
        clear hz hp hti hsn hp2
        (repeat (first | refine gq_KTC ?_ | (refine ga0A ?_; intro _hq)))
        (refine aw_draw mixed T0ok cfU_ok [] (by rfl) (by kernel_rfl) ?_)
        (repeat (first | refine gq_KTC ?_ | (refine ga0A ?_; intro _hq)))
        exact ⟨i + 1, hinv, ⟨by rfl, zHE, zHE⟩, (by first | omega | (dsimp only; omega))⟩
  · have hd : decide ((i : Int) < (t.length : Int)) = false := by simp; omega
    rw [List.drop_of_length_le h5, tvL] at hz
    rw [← hz]
    clear hz hp
    (repeat (first | refine gq_KTC ?_ | (refine ga0A ?_; intro _hq)))
    (refine rtA ?_; try rfl)
end Go.Proofs.Ytfbcblknahicdaa
