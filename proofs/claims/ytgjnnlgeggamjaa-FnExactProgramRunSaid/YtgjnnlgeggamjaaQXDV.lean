/- PKB: laid into one text. -/
import Derived.Test.YtgjnnlgeggamjaaQXDG
import Derived.Test.YtgjnnlgeggamjaaQXDJ

namespace Go.Proofs.Ytgjnnlgeggamjaa
set_option linter.unusedVariables false
set_option linter.unusedSimpArgs false
set_option maxRecDepth 20000
open Go.RowKit
attribute [local irreducible] runA runX AW
theorem gq_PKB {H G : Prop} (k : H) (h : Hid H → G := by (intro hh; repeat1' (first | (first | (refine nxA ?_; (first | fail | ((first | (refine z_op (by rfl) ?_; first | refine z_ok ?_ ?_ | refine z_ex ?_ (by first | exact zL1 | ((first | fail); exact zWW) | exact zL2 | (first | exact rw_c Int rfl | exact rw_c Gt rfl) | exact zL3 | exact ct_t (l := R) rfl rfl rfl (by omega) (by simp; omega)) ?_) | ((first | refine q_callE wsT wsZ (by rfl) ?_ | refine q_callVE wsT (by rfl) (by rfl) ?_); refine ⟨_, _, _, (by first | assumption | exact k_lvS _ _ _ _), _, by rfl, ?_, ?_⟩)); focus (first | exact trivial | fail | exact zQZ)) | fail)) | refine swA ?_) | refine awA ?_); exact hh.out)) : G := h ⟨k⟩
abbrev intRow (l : List Int) : Ent := rwE 3 l
theorem dropG {l : List Gt} {k : Nat} (h : k < l.length) : l.drop k = l.getD (k : Int).toNat Cel.no :: l.drop (k + 1) := by
  rw [List.drop_eq_getElem_cons h]
  simp [List.getD_eq_getElem?_getD, h]
set_option maxHeartbeats 4000000 in
theorem k_opS (P : List Gt) (h : P.length ≤ 2000000) : Kon Try.prog 43 [roA P] [] (.tup [.one (.sl 0 0 (opm P [] 0).1.2), .one (.v (.bool (opm P [] 0).2))]) [intRow (opm P [] 0).1.1] [] := by
  (refine kM Try.func43 rfl ?_; intro hfit hfe)
  (repeat (first | refine gq_PKB ?_ | (refine ga0A ?_; intro _hq)))
  (refine aw_rd [0] [] (fun g : Nat × Nat × List Int × Nat => [(4, .g (.one (.sl 112 g.2.1 g.2.2.2))), (5, vI g.1)]) (fun g => [(112, (g.2.1, intRow g.2.2.1))]) (fun g => g.1 ≤ P.length ∧ g.2.2.2 ≤ g.2.2.1.length ∧ g.2.2.1.length ≤ 4 ∧ g.2.2.2 ≤ 3 ∧ opm (P.drop g.1) g.2.2.1 g.2.2.2 = opm P [] 0) (fun g => P.length - g.1) (0, 0, [], 0) (by rfl) (by rfl) ?_ (by rfl) zHE zHE ?_)
  · exact ⟨Nat.zero_le _, Nat.le_refl _, Nat.zero_le _, Nat.zero_le _, rfl⟩
  rintro ⟨k, u, R, n⟩ ⟨h1, hn, hR4, h2, hz⟩
  dsimp only at h1 hn hR4 h2 hz ⊢
  rcases Nat.lt_or_ge k P.length with h5 | h5
  · have hd : decide ((k : Int) < (P.length : Int)) = true := by simpa using h5
    rw [dropG h5, opm, o2] at hz
    have hg0 : decide ((n : Int) > 3) = false := decide_eq_false (by omega)
    have hgt : decide ((((n : Int) - 1).toNat : Int) > 3) = false := decide_eq_false (by omega)
    have hsl : n ≤ (R.set ((n : Int) - 1).toNat 7).length := by rw [List.length_set]; exact hn
    have hcl : n * 1 ≤ (cV R).length := by rw [cV_len]; show n * 1 ≤ R.length * 1; omega
    by_cases hA : (P.getD (k : Int).toNat Cel.no).k = 4 ∨ (P.getD (k : Int).toNat Cel.no).k = 6
    · rw [if_pos hA] at hz
      have hl : (R.take n ++ [(P.getD (k : Int).toNat Cel.no).k]).length = n + 1 := by simp; omega
      by_cases h3 : n + 1 ≤ 3
      · have hg : decide (((R.take n ++ [(P.getD (k : Int).toNat Cel.no).k]).length : Int) > 3) = false := decide_eq_false (by rw [hl]; omega)
        rw [if_pos (decide_eq_true h3)] at hz
        have hinv : k + 1 ≤ P.length ∧ (R.take n ++ [(P.getD (k : Int).toNat Cel.no).k]).length ≤ (R.take n ++ [(P.getD (k : Int).toNat Cel.no).k]).length ∧ (R.take n ++ [(P.getD (k : Int).toNat Cel.no).k]).length ≤ 4 ∧ (R.take n ++ [(P.getD (k : Int).toNat Cel.no).k]).length ≤ 3 ∧ opm (P.drop (k + 1)) (R.take n ++ [(P.getD (k : Int).toNat Cel.no).k]) (R.take n ++ [(P.getD (k : Int).toNat Cel.no).k]).length = opm P [] 0 := ⟨h5, Nat.le_refl _, by omega, by omega, hz⟩
        clear hz
        rcases hA with hK | hK
        · skip
          have e4 : ((P.getD (k : Int).toNat Cel.no).k == 4) = true := beq_iff_eq.2 hK
          rcases Nat.eq_zero_or_pos n with hp | hp
          · have hN : decide ((n : Int) > 0) = false := decide_eq_false (by omega)
            (repeat (first | refine gq_PKB ?_ | (refine ga0A ?_; intro _hq)))
            exact ⟨(k + 1, u + 1, R.take n ++ [(P.getD (k : Int).toNat Cel.no).k], (R.take n ++ [(P.getD (k : Int).toNat Cel.no).k]).length), hinv, ⟨by rfl, zHE, zHE⟩, (by first | omega | (dsimp only; omega))⟩
          · have hN : decide ((n : Int) > 0) = true := decide_eq_true (by omega)
            (repeat (first | refine gq_PKB ?_ | (refine ga0A ?_; intro _hq)))
            exact ⟨(k + 1, u + 1, R.take n ++ [(P.getD (k : Int).toNat Cel.no).k], (R.take n ++ [(P.getD (k : Int).toNat Cel.no).k]).length), hinv, ⟨by rfl, zHE, zHE⟩, (by first | omega | (dsimp only; omega))⟩
        · skip
          have e4 : ((P.getD (k : Int).toNat Cel.no).k == 4) = false := beq_eq_false_iff_ne.2 (by omega)
          have e6 : ((P.getD (k : Int).toNat Cel.no).k == 6) = true := beq_iff_eq.2 hK
          rcases Nat.eq_zero_or_pos n with hp | hp
          · have hN : decide ((n : Int) > 0) = false := decide_eq_false (by omega)
            (repeat (first | refine gq_PKB ?_ | (refine ga0A ?_; intro _hq)))
            exact ⟨(k + 1, u + 1, R.take n ++ [(P.getD (k : Int).toNat Cel.no).k], (R.take n ++ [(P.getD (k : Int).toNat Cel.no).k]).length), hinv, ⟨by rfl, zHE, zHE⟩, (by first | omega | (dsimp only; omega))⟩
          · have hN : decide ((n : Int) > 0) = true := decide_eq_true (by omega)
            (repeat (first | refine gq_PKB ?_ | (refine ga0A ?_; intro _hq)))
            exact ⟨(k + 1, u + 1, R.take n ++ [(P.getD (k : Int).toNat Cel.no).k], (R.take n ++ [(P.getD (k : Int).toNat Cel.no).k]).length), hinv, ⟨by rfl, zHE, zHE⟩, (by first | omega | (dsimp only; omega))⟩
      · have hg : decide (((R.take n ++ [(P.getD (k : Int).toNat Cel.no).k]).length : Int) > 3) = true := decide_eq_true (by rw [hl]; omega)
        rw [if_neg (show ¬ decide (n + 1 ≤ 3) = true by simp; omega)] at hz
        rw [← hz]
        clear hz
        rcases hA with hK | hK
        · skip
          have e4 : ((P.getD (k : Int).toNat Cel.no).k == 4) = true := beq_iff_eq.2 hK
          rcases Nat.eq_zero_or_pos n with hp | hp
          · exact absurd hp (by omega)
          · have hN : decide ((n : Int) > 0) = true := decide_eq_true (by omega)
            (repeat (first | refine gq_PKB ?_ | (refine ga0A ?_; intro _hq)))
            (refine rtA ?_; try rfl)
        · skip
          have e4 : ((P.getD (k : Int).toNat Cel.no).k == 4) = false := beq_eq_false_iff_ne.2 (by omega)
          have e6 : ((P.getD (k : Int).toNat Cel.no).k == 6) = true := beq_iff_eq.2 hK
          rcases Nat.eq_zero_or_pos n with hp | hp
          · exact absurd hp (by omega)
          · have hN : decide ((n : Int) > 0) = true := decide_eq_true (by omega)
            (repeat (first | refine gq_PKB ?_ | (refine ga0A ?_; intro _hq)))
            (refine rtA ?_; try rfl)
    rw [if_neg hA] at hz
    by_cases hK : (P.getD (k : Int).toNat Cel.no).k = 5
    · rw [if_pos hK] at hz
      have e4 : ((P.getD (k : Int).toNat Cel.no).k == 4) = false := beq_eq_false_iff_ne.2 (by omega)
      have e6 : ((P.getD (k : Int).toNat Cel.no).k == 6) = false := beq_eq_false_iff_ne.2 (by omega)
      have e5 : ((P.getD (k : Int).toNat Cel.no).k == 5) = true := beq_iff_eq.2 hK
      rcases Nat.eq_zero_or_pos n with hp | hp
      · have hN : decide ((n : Int) > 0) = false := decide_eq_false (by omega)
        rw [if_neg (show ¬ (0 < n ∧ (R.getD ((n : Int) - 1).toNat Cel.no) = 4) by omega)] at hz
        rw [← show _ = opm P [] 0 from hz]
        clear hz
        (repeat (first | refine gq_PKB ?_ | (refine ga0A ?_; intro _hq)))
        (refine rtA ?_; try rfl)
      · have hN : decide ((n : Int) > 0) = true := decide_eq_true (by omega)
        by_cases hx : (R.getD ((n : Int) - 1).toNat Cel.no) = 4
        · have hx2 : ((R.getD ((n : Int) - 1).toNat Cel.no) != 4) = false := by rw [hx]; rfl
          rw [if_pos (show 0 < n ∧ (R.getD ((n : Int) - 1).toNat Cel.no) = 4 from ⟨hp, hx⟩), if_pos rfl] at hz
          have hinv : k + 1 ≤ P.length ∧ ((n : Int) - 1).toNat ≤ R.length ∧ R.length ≤ 4 ∧ ((n : Int) - 1).toNat ≤ 3 ∧ opm (P.drop (k + 1)) R ((n : Int) - 1).toNat = opm P [] 0 := ⟨h5, by omega, hR4, by omega, hz⟩
          clear hz
          (repeat (first | refine gq_PKB ?_ | (refine ga0A ?_; intro _hq)))
          exact ⟨(k + 1, u, R, ((n : Int) - 1).toNat), hinv, ⟨by rfl, zHE, zHE⟩, (by first | omega | (dsimp only; omega))⟩
        · have hx2 : ((R.getD ((n : Int) - 1).toNat Cel.no) != 4) = true := bne_iff_ne.2 hx
          rw [if_neg (show ¬ (0 < n ∧ (R.getD ((n : Int) - 1).toNat Cel.no) = 4) from fun h => hx h.2)] at hz
          rw [← show _ = opm P [] 0 from hz]
          clear hz
          (repeat (first | refine gq_PKB ?_ | (refine ga0A ?_; intro _hq)))
          (refine rtA ?_; try rfl)
    rw [if_neg hK] at hz
    by_cases hK : (P.getD (k : Int).toNat Cel.no).k = 7
    · rw [if_pos hK] at hz
      have e4 : ((P.getD (k : Int).toNat Cel.no).k == 4) = false := beq_eq_false_iff_ne.2 (by omega)
      have e6 : ((P.getD (k : Int).toNat Cel.no).k == 6) = false := beq_eq_false_iff_ne.2 (by omega)
      have e5 : ((P.getD (k : Int).toNat Cel.no).k == 5) = false := beq_eq_false_iff_ne.2 (by omega)
      have e7 : ((P.getD (k : Int).toNat Cel.no).k == 7) = true := beq_iff_eq.2 hK
      rcases Nat.eq_zero_or_pos n with hp | hp
      · have hN : decide ((n : Int) > 0) = false := decide_eq_false (by omega)
        rw [if_neg (show ¬ (0 < n ∧ (R.getD ((n : Int) - 1).toNat Cel.no) = 6) by omega)] at hz
        rw [← show _ = opm P [] 0 from hz]
        clear hz
        (repeat (first | refine gq_PKB ?_ | (refine ga0A ?_; intro _hq)))
        (refine rtA ?_; try rfl)
      · have hN : decide ((n : Int) > 0) = true := decide_eq_true (by omega)
        by_cases hx : (R.getD ((n : Int) - 1).toNat Cel.no) = 6
        · have hx2 : ((R.getD ((n : Int) - 1).toNat Cel.no) != 6) = false := by rw [hx]; rfl
          rw [if_pos (show 0 < n ∧ (R.getD ((n : Int) - 1).toNat Cel.no) = 6 from ⟨hp, hx⟩), if_pos rfl] at hz
          have hinv : k + 1 ≤ P.length ∧ n ≤ (R.set ((n : Int) - 1).toNat 7).length ∧ (R.set ((n : Int) - 1).toNat 7).length ≤ 4 ∧ n ≤ 3 ∧ opm (P.drop (k + 1)) (R.set ((n : Int) - 1).toNat 7) n = opm P [] 0 := ⟨h5, hsl, by rw [List.length_set]; exact hR4, h2, hz⟩
          clear hz
          (repeat (first | refine gq_PKB ?_ | (refine ga0A ?_; intro _hq)))
          exact ⟨(k + 1, u, R.set ((n : Int) - 1).toNat 7, n), hinv, ⟨by rfl, zHE, zHE⟩, (by first | omega | (dsimp only; omega))⟩
        · have hx2 : ((R.getD ((n : Int) - 1).toNat Cel.no) != 6) = true := bne_iff_ne.2 hx
          rw [if_neg (show ¬ (0 < n ∧ (R.getD ((n : Int) - 1).toNat Cel.no) = 6) from fun h => hx h.2)] at hz
          rw [← show _ = opm P [] 0 from hz]
          clear hz
          (repeat (first | refine gq_PKB ?_ | (refine ga0A ?_; intro _hq)))
          (refine rtA ?_; try rfl)
    rw [if_neg hK] at hz
    by_cases hK : (P.getD (k : Int).toNat Cel.no).k = 8
    · rw [if_pos hK] at hz
      have e4 : ((P.getD (k : Int).toNat Cel.no).k == 4) = false := beq_eq_false_iff_ne.2 (by omega)
      have e6 : ((P.getD (k : Int).toNat Cel.no).k == 6) = false := beq_eq_false_iff_ne.2 (by omega)
      have e5 : ((P.getD (k : Int).toNat Cel.no).k == 5) = false := beq_eq_false_iff_ne.2 (by omega)
      have e7 : ((P.getD (k : Int).toNat Cel.no).k == 7) = false := beq_eq_false_iff_ne.2 (by omega)
      have e8 : ((P.getD (k : Int).toNat Cel.no).k == 8) = true := beq_iff_eq.2 hK
      rcases Nat.eq_zero_or_pos n with hp | hp
      · have hN : decide ((n : Int) > 0) = false := decide_eq_false (by omega)
        rw [if_neg (show ¬ (0 < n ∧ (R.getD ((n : Int) - 1).toNat Cel.no) = 7) by omega)] at hz
        rw [← show _ = opm P [] 0 from hz]
        clear hz
        (repeat (first | refine gq_PKB ?_ | (refine ga0A ?_; intro _hq)))
        (refine rtA ?_; try rfl)
      · have hN : decide ((n : Int) > 0) = true := decide_eq_true (by omega)
        by_cases hx : (R.getD ((n : Int) - 1).toNat Cel.no) = 7
        · have hx2 : ((R.getD ((n : Int) - 1).toNat Cel.no) != 7) = false := by rw [hx]; rfl
          rw [if_pos (show 0 < n ∧ (R.getD ((n : Int) - 1).toNat Cel.no) = 7 from ⟨hp, hx⟩), if_pos rfl] at hz
          have hinv : k + 1 ≤ P.length ∧ ((n : Int) - 1).toNat ≤ R.length ∧ R.length ≤ 4 ∧ ((n : Int) - 1).toNat ≤ 3 ∧ opm (P.drop (k + 1)) R ((n : Int) - 1).toNat = opm P [] 0 := ⟨h5, by omega, hR4, by omega, hz⟩
          clear hz
          (repeat (first | refine gq_PKB ?_ | (refine ga0A ?_; intro _hq)))
          exact ⟨(k + 1, u, R, ((n : Int) - 1).toNat), hinv, ⟨by rfl, zHE, zHE⟩, (by first | omega | (dsimp only; omega))⟩
        · have hx2 : ((R.getD ((n : Int) - 1).toNat Cel.no) != 7) = true := bne_iff_ne.2 hx
          rw [if_neg (show ¬ (0 < n ∧ (R.getD ((n : Int) - 1).toNat Cel.no) = 7) from fun h => hx h.2)] at hz
          rw [← show _ = opm P [] 0 from hz]
          clear hz
          (repeat (first | refine gq_PKB ?_ | (refine ga0A ?_; intro _hq)))
          (refine rtA ?_; try rfl)
    rw [if_neg hK] at hz
    have e4 : ((P.getD (k : Int).toNat Cel.no).k == 4) = false := beq_eq_false_iff_ne.2 (by omega)
    have e6 : ((P.getD (k : Int).toNat Cel.no).k == 6) = false := beq_eq_false_iff_ne.2 (by omega)
    have e5 : ((P.getD (k : Int).toNat Cel.no).k == 5) = false := beq_eq_false_iff_ne.2 (by omega)
    have e7 : ((P.getD (k : Int).toNat Cel.no).k == 7) = false := beq_eq_false_iff_ne.2 (by omega)
    have e8 : ((P.getD (k : Int).toNat Cel.no).k == 8) = false := beq_eq_false_iff_ne.2 (by omega)
    have hinv : k + 1 ≤ P.length ∧ n ≤ R.length ∧ R.length ≤ 4 ∧ n ≤ 3 ∧ opm (P.drop (k + 1)) R n = opm P [] 0 := ⟨h5, hn, hR4, h2, hz⟩
    clear hz
    rcases Nat.eq_zero_or_pos n with hp | hp
    · have hN : decide ((n : Int) > 0) = false := decide_eq_false (by omega)
      (repeat (first | refine gq_PKB ?_ | (refine ga0A ?_; intro _hq)))
      exact ⟨(k + 1, u, R, n), hinv, ⟨by rfl, zHE, zHE⟩, (by first | omega | (dsimp only; omega))⟩
    · have hN : decide ((n : Int) > 0) = true := decide_eq_true (by omega)
      (repeat (first | refine gq_PKB ?_ | (refine ga0A ?_; intro _hq)))
      exact ⟨(k + 1, u, R, n), hinv, ⟨by rfl, zHE, zHE⟩, (by first | omega | (dsimp only; omega))⟩
  · have hd : decide ((k : Int) < (P.length : Int)) = false := by simp; omega
    rw [List.drop_of_length_le h5, opm] at hz
    rw [← hz]
    clear hz
    (repeat (first | refine gq_PKB ?_ | (refine ga0A ?_; intro _hq)))
    (refine rtA ?_; try rfl)
end Go.Proofs.Ytgjnnlgeggamjaa
