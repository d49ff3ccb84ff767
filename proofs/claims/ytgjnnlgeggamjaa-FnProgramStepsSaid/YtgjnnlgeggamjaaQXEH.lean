/- PKC: laid into one text. -/
import Derived.Test.YtgjnnlgeggamjaaQXEG

namespace Go.Proofs.Ytgjnnlgeggamjaa
set_option linter.unusedVariables false
set_option linter.unusedSimpArgs false
set_option maxRecDepth 20000
open Go.RowKit
attribute [local irreducible] runA runX AW
theorem gq_PKC {H G : Prop} (k : H) (h : Hid H → G := by (intro hh; repeat1' (first | (first | (refine nxA ?_; (first | fail | ((first | (refine z_op (by rfl) ?_; first | refine z_ok ?_ ?_ | refine z_ex ?_ (by first | exact zL1 | ((first | fail); exact zWW) | exact zL2 | fail | exact zL3 | fail) ?_) | ((first | refine q_callE wsT wsZ (by rfl) ?_ | refine q_callVE wsT (by rfl) (by rfl) ?_); refine ⟨_, _, _, (by first | assumption | exact k_lvS _ _ _ _), _, by rfl, ?_, ?_⟩)); focus (first | exact trivial | fail | exact zQZ)) | fail)) | refine swA ?_) | refine awA ?_); exact hh.out)) : G := h ⟨k⟩
theorem k_pvS (P : List Gt) (h : P.length ≤ 2000000) : Kon Try.prog 18 [roA P] [] (vB (pvS P)) [] [] := by
  have hO := k_opS P h
  (refine kM Try.func18 rfl ?_; intro hfit hfe)
  (repeat (first | refine gq_PKC ?_ | (refine ga0A ?_; intro _hq)))
  (refine aw_rd [0] [] (fun i : Nat => [(3, vI i)]) (fun _ => []) (fun i => i ≤ P.length ∧ (P.drop i).all lkG = P.all lkG) (fun i => P.length - i) 0 (by rfl) (by rfl) ?_ (by rfl) zHE zHE ?_)
  · exact ⟨Nat.zero_le _, rfl⟩
  rintro i ⟨hi, hz⟩
  rcases Nat.lt_or_ge i P.length with h5 | h5
  · have hd : decide ((i : Int) < (P.length : Int)) = true := by simpa using h5
    rw [dropG h5, List.all_cons] at hz
    have hL := k_lvS (P.getD (i : Int).toNat Cel.no).k (P.getD (i : Int).toNat Cel.no).a (P.getD (i : Int).toNat Cel.no).b (P.getD (i : Int).toNat Cel.no).c
    cases hb : lkG (P.getD (i : Int).toNat Cel.no) with
    | false =>
      have e : pvS P = false := by unfold pvS; rw [← hz, hb]; rfl
      have hb' : lok (P.getD (i : Int).toNat Cel.no).k (P.getD (i : Int).toNat Cel.no).a (P.getD (i : Int).toNat Cel.no).b (P.getD (i : Int).toNat Cel.no).c = false := hb
      rw [hb'] at hL
      rw [e]
      (repeat (first | refine gq_PKC ?_ | (refine ga0A ?_; intro _hq)))
      (refine rtA ?_; try rfl)
    | true =>
      have hb' : lok (P.getD (i : Int).toNat Cel.no).k (P.getD (i : Int).toNat Cel.no).a (P.getD (i : Int).toNat Cel.no).b (P.getD (i : Int).toNat Cel.no).c = true := hb
      rw [hb'] at hL
      rw [hb, Bool.true_and] at hz
      have hinv : i + 1 ≤ P.length ∧ (P.drop (i + 1)).all lkG = P.all lkG := ⟨h5, hz⟩
      clear hz
      (repeat (first | refine gq_PKC ?_ | (refine ga0A ?_; intro _hq)))
      exact ⟨i + 1, hinv, ⟨by rfl, zHE, zHE⟩, (by first | omega | (dsimp only; omega))⟩
  · have hd : decide ((i : Int) < (P.length : Int)) = false := by simp; omega
    have e : pvS P = ((opm P [] 0).2 && (((opm P [] 0).1.2 : Int) == 0) && decide ((P.length : Int) ≤ 16)) := by
      rw [pv_opm, ← hz, List.drop_of_length_le h5]; rfl
    rw [e]
    cases h2 : (opm P [] 0).2 <;> cases h3 : (((opm P [] 0).1.2 : Int) == 0)
    all_goals rw [h2] at hO
    all_goals ((repeat (first | refine gq_PKC ?_ | (refine ga0A ?_; intro _hq))))
    all_goals ((refine rtA ?_; try rfl))
set_option maxHeartbeats 4000000 in
theorem k_clS (P : List Gt) (j : Nat) (h : P.length ≤ 2000000) (h1 : j < P.length) : Kon Try.prog 34 [roA P, vI (j : Int)] [] (vI ((cls P j : Nat) : Int)) [] [] := by
  obtain ⟨Z, hZ⟩ : ∃ Z, Z = cls P j := ⟨_, rfl⟩
  have hZ2 := hZ
  unfold cls at hZ2
  rw [← hZ]
  clear hZ
  (refine kM Try.func34 rfl ?_; intro hfit hfe)
  (repeat (first | refine gq_PKC ?_ | (refine ga0A ?_; intro _hq)))
  (refine aw_rd [0, 1] [] (fun g : Nat × Int => [(5, vI g.2), (6, vI (g.1 : Int))]) (fun _ => []) (fun g => g.1 ≤ P.length ∧ 0 ≤ g.2 ∧ g.2 ≤ g.1 ∧ g.1 + clo (P.drop g.1) g.2.toNat = Z) (fun g => P.length - g.1) (j + 1, 0) (by rfl) (by rfl) ?_ (by rfl) zHE zHE ?_)
  · exact ⟨h1, Int.le_refl _, by show (0 : Int) ≤ ((j + 1 : Nat) : Int); omega, hZ2.symm⟩
  clear hZ2
  rintro ⟨m, d⟩ ⟨h2, h3, h4, hz⟩
  dsimp only at h2 h3 h4 hz ⊢
  rcases Nat.lt_or_ge m P.length with h5 | h5
  · have hd : decide ((m : Int) < (P.length : Int)) = true := by simpa using h5
    rw [dropG h5, clo] at hz
    by_cases hA : (P.getD (m : Int).toNat Cel.no).k = 4 ∨ (P.getD (m : Int).toNat Cel.no).k = 6
    · rw [if_pos hA] at hz
      have hinv : m + 1 ≤ P.length ∧ 0 ≤ d + 1 ∧ d + 1 ≤ ((m + 1 : Nat) : Int) ∧ m + 1 + clo (P.drop (m + 1)) (d + 1).toNat = Z := ⟨h5, by omega, by omega, by rw [show (d + 1).toNat = d.toNat + 1 by omega]; omega⟩
      clear hz
      rcases hA with hK | hK
      · skip
        have e4 : ((P.getD (m : Int).toNat Cel.no).k == 4) = true := beq_iff_eq.2 hK
        (repeat (first | refine gq_PKC ?_ | (refine ga0A ?_; intro _hq)))
        exact ⟨(m + 1, d + 1), hinv, ⟨by rfl, zHE, zHE⟩, (by first | omega | (dsimp only; omega))⟩
      · skip
        have e4 : ((P.getD (m : Int).toNat Cel.no).k == 4) = false := beq_eq_false_iff_ne.2 (by omega)
        have e6 : ((P.getD (m : Int).toNat Cel.no).k == 6) = true := beq_iff_eq.2 hK
        (repeat (first | refine gq_PKC ?_ | (refine ga0A ?_; intro _hq)))
        exact ⟨(m + 1, d + 1), hinv, ⟨by rfl, zHE, zHE⟩, (by first | omega | (dsimp only; omega))⟩
    rw [if_neg hA] at hz
    by_cases hB : (P.getD (m : Int).toNat Cel.no).k = 5 ∨ (P.getD (m : Int).toNat Cel.no).k = 8
    · rw [if_pos hB] at hz
      by_cases h0 : d = 0
      · rw [if_pos (by omega)] at hz
        have e0 : (d == 0) = true := beq_iff_eq.2 h0
        have hz2 : m = Z := hz
        clear hz
        rcases hB with hK | hK
        · skip
          have e4 : ((P.getD (m : Int).toNat Cel.no).k == 4) = false := beq_eq_false_iff_ne.2 (by omega)
          have e6 : ((P.getD (m : Int).toNat Cel.no).k == 6) = false := beq_eq_false_iff_ne.2 (by omega)
          have e5 : ((P.getD (m : Int).toNat Cel.no).k == 5) = true := beq_iff_eq.2 hK
          rw [← hz2]
          (repeat (first | refine gq_PKC ?_ | (refine ga0A ?_; intro _hq)))
          (refine rtA ?_; try rfl)
        · skip
          have e4 : ((P.getD (m : Int).toNat Cel.no).k == 4) = false := beq_eq_false_iff_ne.2 (by omega)
          have e6 : ((P.getD (m : Int).toNat Cel.no).k == 6) = false := beq_eq_false_iff_ne.2 (by omega)
          have e5 : ((P.getD (m : Int).toNat Cel.no).k == 5) = false := beq_eq_false_iff_ne.2 (by omega)
          have e8 : ((P.getD (m : Int).toNat Cel.no).k == 8) = true := beq_iff_eq.2 hK
          rw [← hz2]
          (repeat (first | refine gq_PKC ?_ | (refine ga0A ?_; intro _hq)))
          (refine rtA ?_; try rfl)
      · rw [if_neg (by omega)] at hz
        have e0 : (d == 0) = false := beq_eq_false_iff_ne.2 h0
        have hinv : m + 1 ≤ P.length ∧ 0 ≤ d - 1 ∧ d - 1 ≤ ((m + 1 : Nat) : Int) ∧ m + 1 + clo (P.drop (m + 1)) (d - 1).toNat = Z := ⟨h5, by omega, by omega, by rw [show (d - 1).toNat = d.toNat - 1 by omega]; omega⟩
        clear hz
        rcases hB with hK | hK
        · skip
          have e4 : ((P.getD (m : Int).toNat Cel.no).k == 4) = false := beq_eq_false_iff_ne.2 (by omega)
          have e6 : ((P.getD (m : Int).toNat Cel.no).k == 6) = false := beq_eq_false_iff_ne.2 (by omega)
          have e5 : ((P.getD (m : Int).toNat Cel.no).k == 5) = true := beq_iff_eq.2 hK
          (repeat (first | refine gq_PKC ?_ | (refine ga0A ?_; intro _hq)))
          exact ⟨(m + 1, d - 1), hinv, ⟨by rfl, zHE, zHE⟩, (by first | omega | (dsimp only; omega))⟩
        · skip
          have e4 : ((P.getD (m : Int).toNat Cel.no).k == 4) = false := beq_eq_false_iff_ne.2 (by omega)
          have e6 : ((P.getD (m : Int).toNat Cel.no).k == 6) = false := beq_eq_false_iff_ne.2 (by omega)
          have e5 : ((P.getD (m : Int).toNat Cel.no).k == 5) = false := beq_eq_false_iff_ne.2 (by omega)
          have e8 : ((P.getD (m : Int).toNat Cel.no).k == 8) = true := beq_iff_eq.2 hK
          (repeat (first | refine gq_PKC ?_ | (refine ga0A ?_; intro _hq)))
          exact ⟨(m + 1, d - 1), hinv, ⟨by rfl, zHE, zHE⟩, (by first | omega | (dsimp only; omega))⟩
    rw [if_neg hB] at hz
    have hinv : (¬ (P.getD (m : Int).toNat Cel.no).k = 7 ∨ ¬ d = 0) → m + 1 ≤ P.length ∧ 0 ≤ d ∧ d ≤ ((m + 1 : Nat) : Int) ∧ m + 1 + clo (P.drop (m + 1)) d.toNat = Z := fun hx => ⟨h5, h3, by omega, by
      by_cases hK : (P.getD (m : Int).toNat Cel.no).k = 7
      · rw [if_pos hK, if_neg (by omega)] at hz; omega
      · rw [if_neg hK] at hz; omega⟩
    by_cases hK : (P.getD (m : Int).toNat Cel.no).k = 7
    · rw [if_pos hK] at hz
      have e4 : ((P.getD (m : Int).toNat Cel.no).k == 4) = false := beq_eq_false_iff_ne.2 (by omega)
      have e6 : ((P.getD (m : Int).toNat Cel.no).k == 6) = false := beq_eq_false_iff_ne.2 (by omega)
      have e5 : ((P.getD (m : Int).toNat Cel.no).k == 5) = false := beq_eq_false_iff_ne.2 (by omega)
      have e8 : ((P.getD (m : Int).toNat Cel.no).k == 8) = false := beq_eq_false_iff_ne.2 (by omega)
      have e7 : ((P.getD (m : Int).toNat Cel.no).k == 7) = true := beq_iff_eq.2 hK
      by_cases h0 : d = 0
      · rw [if_pos (by omega)] at hz
        have e0 : (d == 0) = true := beq_iff_eq.2 h0
        have hz2 : m = Z := hz
        clear hz hinv
        rw [← hz2]
        (repeat (first | refine gq_PKC ?_ | (refine ga0A ?_; intro _hq)))
        (refine rtA ?_; try rfl)
      · have e0 : (d == 0) = false := beq_eq_false_iff_ne.2 h0
        have hinv2 := hinv (.inr h0)
        clear hz hinv
        (repeat (first | refine gq_PKC ?_ | (refine ga0A ?_; intro _hq)))
        exact ⟨(m + 1, d), hinv2, ⟨by rfl, zHE, zHE⟩, (by first | omega | (dsimp only; omega))⟩
    have hinv2 := hinv (.inl hK)
    have e4 : ((P.getD (m : Int).toNat Cel.no).k == 4) = false := beq_eq_false_iff_ne.2 (by omega)
    have e6 : ((P.getD (m : Int).toNat Cel.no).k == 6) = false := beq_eq_false_iff_ne.2 (by omega)
    have e5 : ((P.getD (m : Int).toNat Cel.no).k == 5) = false := beq_eq_false_iff_ne.2 (by omega)
    have e8 : ((P.getD (m : Int).toNat Cel.no).k == 8) = false := beq_eq_false_iff_ne.2 (by omega)
    have e7 : ((P.getD (m : Int).toNat Cel.no).k == 7) = false := beq_eq_false_iff_ne.2 (by omega)
    clear hz hinv
    (repeat (first | refine gq_PKC ?_ | (refine ga0A ?_; intro _hq)))
    exact ⟨(m + 1, d), hinv2, ⟨by rfl, zHE, zHE⟩, (by first | omega | (dsimp only; omega))⟩
  · have hd : decide ((m : Int) < (P.length : Int)) = false := by simp; omega
    obtain rfl : m = P.length := by omega
    rw [List.drop_of_length_le (Nat.le_refl _), clo] at hz
    have hz2 : P.length = Z := hz
    clear hz
    rw [← hz2]
    (repeat (first | refine gq_PKC ?_ | (refine ga0A ?_; intro _hq)))
    (refine rtA ?_; try rfl)
end Go.Proofs.Ytgjnnlgeggamjaa
