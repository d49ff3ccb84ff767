/- PKE: laid into one text. -/
import Derived.Test.YtgjnnlgeggamjaaQXCH

namespace Go.Proofs.Ytgjnnlgeggamjaa
set_option linter.unusedVariables false
set_option linter.unusedSimpArgs false
set_option maxRecDepth 20000
open Go.RowKit
attribute [local irreducible] runA runX AW
theorem gq_PKE {H G : Prop} (k : H) (h : Hid H → G := by (intro hh; repeat1' (first | (first | (refine nxA ?_; (first | fail | ((first | (refine z_op (by rfl) ?_; first | refine z_ok ?_ ?_ | refine z_ex ?_ (by first | exact zL1 | ((first | fail); exact zWW) | exact zL2 | (first | exact rw_c Gt rfl) | exact zL3 | fail) ?_) | ((first | refine q_callE wsT wsZ (by rfl) ?_ | refine q_callVE wsT (by rfl) (by rfl) ?_); refine ⟨_, _, _, (by first | assumption | exact k_clS _ _ (by assumption) (by omega)), _, by rfl, ?_, ?_⟩)); focus (first | exact trivial | fail | exact zQZ)) | fail)) | refine swA ?_) | refine awA ?_); exact hh.out)) : G := h ⟨k⟩
abbrev lRow (l : List Gt) : Ent := rwE 47 l
theorem k_pbS0 (P : List Gt) (h : P.length ≤ 2000000) (hv : pvS P = false) : Kon Try.prog 10 [roA P] [] (slA 0 0 ([] : List Gt)) [lRow []] [] := by
  have hP := k_pvS P h
  rw [hv] at hP
  have hN : decide ((P.length : Int) - 1 ≥ 0) = true := by
    obtain _ | ⟨a, P⟩ := P
    · exact absurd hv (by decide)
    · exact decide_eq_true (by simp)
  (refine kM Try.func10 rfl ?_; intro hfit hfe)
  (repeat (first | refine gq_PKE ?_ | (refine ga0A ?_; intro _hq)))
  (refine aw_rd [0] [] (fun k : Nat => [(3, slA 112 0 ([] : List Gt)), (4, vI ((P.length : Int) - 1))]) (fun _ => [(112, (0, lRow []))]) (fun _ => True) (fun k => k) 0 (by rfl) (by rfl) ?_ (by rfl) zHE zHE ?_)
  · trivial
  rintro k -
  (repeat (first | refine gq_PKE ?_ | (refine ga0A ?_; intro _hq)))
  (refine rtA ?_; try rfl)
set_option maxHeartbeats 4000000 in
theorem k_pbS (P : List Gt) (h : P.length ≤ 2000000) (hv : pvS P = true) : Kon Try.prog 10 [roA P] [] (slA 0 0 (sbS P 0 P.length)) [lRow (sbS P 0 P.length)] [] := by
  have hP := k_pvS P h
  rw [hv] at hP
  have hall : P.all lkG = true := by
    unfold pvS at hv; rw [Bool.and_eq_true, Bool.and_eq_true] at hv; exact hv.1.1
  have hN16 : P.length ≤ 16 := by
    unfold pvS at hv; rw [Bool.and_eq_true, Bool.and_eq_true] at hv; exact of_decide_eq_true hv.2
  clear hv
  (refine kM Try.func10 rfl ?_; intro hfit hfe)
  (repeat (first | refine gq_PKE ?_ | (refine ga0A ?_; intro _hq)))
  (refine aw_rd [0] [] (fun g : Int × Nat × List Gt => [(3, slA 112 g.2.1 g.2.2), (4, vI g.1)]) (fun g => [(112, (g.2.1, lRow g.2.2))]) (fun g => -1 ≤ g.1 ∧ g.1 < P.length ∧ g.2.2.length ≤ 16 ∧ g.2.2 ++ sbS P 0 (g.1 + 1).toNat = sbS P 0 P.length) (fun g => (g.1 + 1).toNat) ((P.length : Int) - 1, 0, []) (by rfl) (by rfl) ?_ (by rfl) zHE zHE ?_)
  · refine ⟨by omega, by omega, Nat.zero_le _, ?_⟩
    rw [show ((P.length : Int) - 1 + 1).toNat = P.length by omega]; rfl
  rintro ⟨k, u, o⟩ ⟨h1, h2, h3, hz⟩
  dsimp only at h1 h2 h3 hz ⊢
  rcases (show k < 0 ∨ 0 ≤ k by omega) with h5 | h5
  · have hd : decide (k ≥ 0) = false := decide_eq_false (by omega)
    rw [show (k + 1).toNat = 0 by omega, sbS, List.append_nil] at hz
    rw [← hz]
    clear hz
    (repeat (first | refine gq_PKE ?_ | (refine ga0A ?_; intro _hq)))
    (refine rtA ?_; try rfl)
  · have hd : decide (k ≥ 0) = true := decide_eq_true h5
    have hlk : lkG (P.getD k.toNat Cel.no) = true := by
      have : k.toNat < P.length := by omega
      rw [List.getD_eq_getElem?_getD, List.getElem?_eq_getElem this]
      exact List.all_eq_true.1 hall _ (List.getElem_mem this)
    have hLB := k_lbS _ hlk
    rw [show (k + 1).toNat = k.toNat + 1 by omega, sbS, Nat.zero_add] at hz
    by_cases hK : (P.getD k.toNat Cel.no).k = 5
    · have e5 : ((P.getD k.toNat Cel.no).k == 5) = true := beq_iff_eq.2 hK
      have hc0 : (lb (P.getD k.toNat Cel.no)).c = 0 := by
        have hh := lk_cases hlk
        have h50 : ((P.getD k.toNat Cel.no)).c = 0 := by omega
        unfold lb
        rw [if_neg (by omega), if_neg (by omega), if_neg (by omega), if_neg (by omega), if_neg (by omega), if_pos hK]
        exact h50
      rw [hc0] at hLB
      have hsb : sb P k.toNat = ⟨(lb (P.getD k.toNat Cel.no)).k, (lb (P.getD k.toNat Cel.no)).a, (lb (P.getD k.toNat Cel.no)).b, sbN P k.toNat k.toNat⟩ := if_pos hK
      rw [hsb] at hz
      clear hsb
      (repeat (first | refine gq_PKE ?_ | (refine ga0A ?_; intro _hq)))
      (refine aw_rd [0, 3, 4, 5] [] (fun g : Nat × Int => [(6, vI g.1)]) (fun g => [(80, (0, .box (lCs (lb (P.getD k.toNat Cel.no)).k (lb (P.getD k.toNat Cel.no)).a (lb (P.getD k.toNat Cel.no)).b g.2))), (112, (u, lRow o))]) (fun g => (g.1 : Int) ≤ k ∧ g.2 = sbN P k.toNat g.1) (fun g => P.length - g.1) (0, 0) (by rfl) (by rfl) ?_ (by rfl) zHE zHE ?_)
      · exact ⟨h5, rfl⟩
      rintro ⟨j, c⟩ ⟨h6, h7⟩
      dsimp only at h6 h7 ⊢
      rcases (show (j : Int) < k ∨ (j : Int) = k by omega) with h8 | h8
      · have hd8 : decide ((j : Int) < k) = true := decide_eq_true h8
        have hC := k_clS P j h (by omega)
        by_cases h4 : (P.getD (j : Int).toNat Cel.no).k = 4 ∧ cls P j = k.toNat
        · have e4 : ((P.getD (j : Int).toNat Cel.no).k == 4) = true := beq_iff_eq.2 h4.1
          have ec : (((cls P j : Nat) : Int) == k) = true := beq_iff_eq.2 (by omega)
          have hinv : ((j + 1 : Nat) : Int) ≤ k ∧ (P.getD (j : Int).toNat Cel.no).c = sbN P k.toNat (j + 1) := ⟨by omega, by rw [sbN]; exact (if_pos h4).symm⟩
          clear hz
          (repeat (first | refine gq_PKE ?_ | (refine ga0A ?_; intro _hq)))
          exact ⟨(j + 1, (P.getD (j : Int).toNat Cel.no).c), hinv, ⟨by rfl, zHE, zHE⟩, (by first | omega | (dsimp only; omega))⟩
        · have hinv : ((j + 1 : Nat) : Int) ≤ k ∧ c = sbN P k.toNat (j + 1) := ⟨by omega, by rw [sbN, h7]; exact (if_neg h4).symm⟩
          clear hz
          by_cases h40 : (P.getD (j : Int).toNat Cel.no).k = 4
          · have e4 : ((P.getD (j : Int).toNat Cel.no).k == 4) = true := beq_iff_eq.2 h40
            have ec : (((cls P j : Nat) : Int) == k) = false := beq_eq_false_iff_ne.2 (fun he => h4 ⟨h40, by omega⟩)
            (repeat (first | refine gq_PKE ?_ | (refine ga0A ?_; intro _hq)))
            exact ⟨(j + 1, c), hinv, ⟨by rfl, zHE, zHE⟩, (by first | omega | (dsimp only; omega))⟩
          · have e4 : ((P.getD (j : Int).toNat Cel.no).k == 4) = false := beq_eq_false_iff_ne.2 h40
            (repeat (first | refine gq_PKE ?_ | (refine ga0A ?_; intro _hq)))
            exact ⟨(j + 1, c), hinv, ⟨by rfl, zHE, zHE⟩, (by first | omega | (dsimp only; omega))⟩
      · have hd8 : decide ((j : Int) < k) = false := decide_eq_false (by omega)
        obtain rfl : j = k.toNat := by omega
        rw [← h7] at hz
        clear h7
        have hinv : -1 ≤ k - 1 ∧ k - 1 < P.length ∧ (o ++ [(⟨(lb (P.getD k.toNat Cel.no)).k, (lb (P.getD k.toNat Cel.no)).a, (lb (P.getD k.toNat Cel.no)).b, c⟩ : Gt)]).length ≤ 16 ∧ (o ++ [(⟨(lb (P.getD k.toNat Cel.no)).k, (lb (P.getD k.toNat Cel.no)).a, (lb (P.getD k.toNat Cel.no)).b, c⟩ : Gt)]) ++ sbS P 0 (k - 1 + 1).toNat = sbS P 0 P.length := by
          refine ⟨by omega, by omega, ?_, ?_⟩
          · have := congrArg List.length hz
            rw [List.length_append, List.length_cons, sbS_len, sbS_len] at this
            rw [List.length_append]; simp; omega
          · rw [show (k - 1 + 1).toNat = k.toNat by omega, List.append_assoc]; exact hz
        clear hz
        (repeat (first | refine gq_PKE ?_ | (refine ga0A ?_; intro _hq)))
        exact ⟨(k - 1, u + 1, o ++ [(⟨(lb (P.getD k.toNat Cel.no)).k, (lb (P.getD k.toNat Cel.no)).a, (lb (P.getD k.toNat Cel.no)).b, c⟩ : Gt)]), hinv, ⟨by rfl, zHE, zHE⟩, (by first | omega | (dsimp only; omega))⟩
    · have e5 : ((P.getD k.toNat Cel.no).k == 5) = false := beq_eq_false_iff_ne.2 hK
      have e : sb P k.toNat = lb (P.getD k.toNat Cel.no) := by unfold sb; exact if_neg hK
      rw [e] at hz
      have hinv : -1 ≤ k - 1 ∧ k - 1 < P.length ∧ (o ++ [lb (P.getD k.toNat Cel.no)]).length ≤ 16 ∧ (o ++ [lb (P.getD k.toNat Cel.no)]) ++ sbS P 0 (k - 1 + 1).toNat = sbS P 0 P.length := by
        refine ⟨by omega, by omega, ?_, ?_⟩
        · have := congrArg List.length hz
          rw [List.length_append, List.length_cons, sbS_len, sbS_len] at this
          rw [List.length_append]; simp; omega
        · rw [show (k - 1 + 1).toNat = k.toNat by omega, List.append_assoc]; exact hz
      clear hz e
      (repeat (first | refine gq_PKE ?_ | (refine ga0A ?_; intro _hq)))
      exact ⟨(k - 1, u + 1, o ++ [lb (P.getD k.toNat Cel.no)]), hinv, ⟨by rfl, zHE, zHE⟩, (by first | omega | (dsimp only; omega))⟩
end Go.Proofs.Ytgjnnlgeggamjaa
