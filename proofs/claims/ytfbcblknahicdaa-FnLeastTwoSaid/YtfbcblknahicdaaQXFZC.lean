/- LTU: laid into one text. -/
import Derived.Test.YtfbcblknahicdaaQXFR
import Derived.Test.YtfbcblknahicdaaQXFT
import Derived.Test.YtfbcblknahicdaaQXFV
import Derived.Test.YtfbcblknahicdaaQXFZB

namespace Go.Proofs.Ytfbcblknahicdaa
set_option linter.unusedVariables false
set_option linter.unusedSimpArgs false
set_option maxRecDepth 20000
open Go.RowKit
attribute [local irreducible] runA runX AW
theorem gq_LTU {H G : Prop} (k : H) (h : Hid H → G := by (intro hh; repeat1' (first | (first | (refine nxA ?_; (first | fail | ((first | (refine z_op (by rfl) ?_; first | refine z_ok ?_ ?_ | refine z_ex ?_ (by first | exact zL1 | ((first | fail); exact zWW) | exact zL2 | fail | exact zL3 | fail) ?_) | ((first | refine q_callE wsT wsZ (by rfl) ?_ | refine q_callVE wsT (by rfl) (by rfl) ?_); refine ⟨_, _, _, (by first | assumption | exact k_alive), _, by rfl, ?_, ?_⟩)); focus (first | exact trivial | fail | exact zQZ)) | fail)) | refine swA ?_) | refine awA ?_); exact hh.out)) : G := h ⟨k⟩
theorem ltI_at {k : Nat} (hk : k < 24) : ltI (tbA S24 k) = (dsA S24 k : Int) := by
  obtain ⟨h1, h2, _⟩ := at24 k hk
  unfold ltI
  rw [h1, h2, if_pos rfl]
theorem ltI_no {t : List Int} (h : tvB 2 t = false) : ltI t = -1 := by
  unfold ltI
  rw [h, if_neg (by decide)]
theorem k_ltI (t : List Int) (h : t.length ≤ 1000) : Kon Try.prog 5 [roA t] [] (vI (ltI t)) [] [] := by
  cases hv : tvB 2 t with
  | false =>
    rw [ltI_no hv]
    have hV := k_tvI 2 t h
    rw [hv] at hV
    (refine kM Try.func5 rfl ?_; intro hfit hfe)
    (repeat (first | refine gq_LTU ?_ | (refine ga0A ?_; intro _hq)))
    (refine rtA ?_; try rfl)
  | true =>
    obtain ⟨k, hk, ht⟩ := in_at (tv_in hv)
    obtain ⟨a, b, c, d, hab, he⟩ := tv_four hv
    rw [ht, ltI_at hk, ← ht, he]
    exact k_ltI1 a b c d hab k hk (by rw [← ht, he])
theorem k_ltS (t : List Int) (h : t.length ≤ 1000) : Kon Try.prog 6 [roA t] [] (vI (ltI t)) [] [] := by
  cases hv : tvB 2 t with
  | false =>
    rw [ltI_no hv]
    have hV := k_tvS 2 t (by omega) h
    rw [hv] at hV
    (refine kM Try.func6 rfl ?_; intro hfit hfe)
    (repeat (first | refine gq_LTU ?_ | (refine ga0A ?_; intro _hq)))
    (refine rtA ?_; try rfl)
  | true =>
    obtain ⟨k, hk, ht⟩ := in_at (tv_in hv)
    obtain ⟨h4, hb⟩ := tv_bd hv
    have := k_ltS1 t k hk hv (by rw [ht]) h4 hb
    rwa [← ltI_at hk, ← ht] at this
theorem ltI_tab {cs : List Gt} (h : cs.all (gok 2) = true) : decide (ltI (tabN cs 4) > (cs.length : Int)) = false := by
  obtain ⟨j, hj, he, hd⟩ := circ_le cs h
  have e : tabN cs 4 = [0, 1, 2, 3].map (cr cs) := rfl
  rw [e, he, ltI_at hj]
  exact decide_eq_false (by omega)
set_option maxHeartbeats 4000000 in
theorem k_lawLT (l m : List UInt8) : Kon Try.prog 3 [roA l, roA m] [] (vB true) [] [] := by
  rcases Nat.lt_or_ge 1048576 l.length with h0 | h0
  · have hd : decide ((l.length : Int) > 1048576) = true := decide_eq_true (by omega)
    (refine kM Try.func3 rfl ?_; intro hfit hfe)
    (repeat (first | refine gq_LTU ?_ | (refine ga0A ?_; intro _hq)))
    (refine rtA ?_; try rfl)
  have hd : decide ((l.length : Int) > 1048576) = false := decide_eq_false (by omega)
  rcases Nat.lt_or_ge 1048576 m.length with h1 | h1
  · have hd1 : decide ((m.length : Int) > 1048576) = true := decide_eq_true (by omega)
    (refine kM Try.func3 rfl ?_; intro hfit hfe)
    (repeat (first | refine gq_LTU ?_ | (refine ga0A ?_; intro _hq)))
    (refine rtA ?_; try rfl)
  have hd1 : decide ((m.length : Int) > 1048576) = false := decide_eq_false (by omega)
  obtain ⟨t, ht5, hD⟩ := ex_dLT l (by omega)
  obtain ⟨L, cs, hL, hcl, _, hDC⟩ := ex_dTab m (by omega)
  have hI := k_ltI t (by omega)
  have hS := k_ltS t (by omega)
  obtain ⟨X, hX⟩ : ∃ X, ltI t = X := ⟨_, rfl⟩
  rw [hX] at hI hS
  have hne : (X != X) = false := by simp
  have hC2 := k_cvS 2 cs (by omega) (by omega)
  have main : (L = 2 → cokB 2 cs = true → ∃ (T : List Int) (Y : Int), T.length = 4 ∧ decide (Y > (cs.length : Int)) = false ∧ Kon Try.prog 9 [vI 2, roA cs] [] (slA 0 0 T) [iRow T] [] ∧ Kon Try.prog 5 [roA T] [] (vI Y) [] []) := fun h2 hc => by
    obtain ⟨_, _, ha⟩ := cokB_t hc
    exact ⟨tabN cs 4, ltI (tabN cs 4), tabN_len cs 4, ltI_tab ha, k_ct 2 cs hc 4 rfl, k_ltI _ (by rw [tabN_len]; decide)⟩
  cases hv : tvB 2 t with
  | false =>
    obtain rfl : X = -1 := by rw [← hX]; exact ltI_no hv
    clear hX hv
    by_cases hL2 : L = 2
    · subst hL2
      cases hc : cokB 2 cs with
      | false =>
        rw [hc] at hC2
        clear main
        (refine kM Try.func3 rfl ?_; intro hfit hfe)
        (repeat (first | refine gq_LTU ?_ | (refine ga0A ?_; intro _hq)))
        (refine rtA ?_; try rfl)
      | true =>
        rw [hc] at hC2
        obtain ⟨T, Y, hT, hY, hCT, hCI⟩ := main rfl hc
        clear main
        (refine kM Try.func3 rfl ?_; intro hfit hfe)
        (repeat (first | refine gq_LTU ?_ | (refine ga0A ?_; intro _hq)))
        (refine rtA ?_; try rfl)
    · have hLb : (L == 2) = false := by simp [hL2]
      clear main hC2
      (refine kM Try.func3 rfl ?_; intro hfit hfe)
      (repeat (first | refine gq_LTU ?_ | (refine ga0A ?_; intro _hq)))
      (refine rtA ?_; try rfl)
  | true =>
    obtain ⟨k, hk, ht⟩ := in_at (tv_in hv)
    obtain rfl : X = (dsA S24 k : Int) := by rw [← hX, ht]; exact ltI_at hk
    have hd4 := (at24 k hk).2.2
    have h4 := (tv_bd hv).1
    have hTB := k_tb t hv
    have hTC := k_tcI2 t hv
    have hTI := k_ltI (tbM t t.length) (by rw [tbM_len]; omega)
    have hTX : ltI (tbM t t.length) = (dsA S24 k : Int) := by
      obtain ⟨j, hj, e1, e2⟩ := back24 k hk
      rw [h4, ht, tbM24 k hk, e1, ltI_at hj, e2]
    rw [hTX] at hTI
    obtain ⟨C, hC⟩ : ∃ C : Int, (((cyM (fT t) t.length t.length).2.length : Nat) : Int) = C := ⟨_, rfl⟩
    rw [hC] at hTC
    have hfin : (((dsA S24 k : Int) == 0) == (C == 4)) = true := by
      have h := cyc24 k hk
      rw [← hC, h4, ht]
      cases hb : (dsA S24 k == 0) with
      | true =>
        rw [hb] at h
        have h5 : dsA S24 k = 0 := by simpa using hb
        have h6 : (cyM (fT (tbA S24 k)) 4 4).2.length = 4 := by simpa using h.symm
        rw [h5, h6]; rfl
      | false =>
        rw [hb] at h
        have h5 : dsA S24 k ≠ 0 := by simpa using hb
        have h6 : (cyM (fT (tbA S24 k)) 4 4).2.length ≠ 4 := by simpa using h.symm
        have h7 : ((dsA S24 k : Int) == 0) = false := by rw [beq_eq_false_iff_ne]; omega
        have h8 : ((((cyM (fT (tbA S24 k)) 4 4).2.length : Nat) : Int) == 4) = false := by rw [beq_eq_false_iff_ne]; omega
        rw [h7, h8]; rfl
    generalize dsA S24 k = d at *
    have hp0 : decide ((d : Int) < 0) = false := decide_eq_false (by omega)
    have hp1 : ((d : Int) == (d : Int)) = true := by simp
    have hp2 : decide ((d : Int) ≤ 4) = true := decide_eq_true (by omega)
    clear hX hv ht hTX hC
    by_cases hL2 : L = 2
    · subst hL2
      cases hc : cokB 2 cs with
      | false =>
        rw [hc] at hC2
        clear main
        (refine kM Try.func3 rfl ?_; intro hfit hfe)
        (repeat (first | refine gq_LTU ?_ | (refine ga0A ?_; intro _hq)))
        (refine rtA ?_; try rfl)
        exact congrArg vB hfin
      | true =>
        rw [hc] at hC2
        obtain ⟨T, Y, hT, hY, hCT, hCI⟩ := main rfl hc
        clear main
        (refine kM Try.func3 rfl ?_; intro hfit hfe)
        (repeat (first | refine gq_LTU ?_ | (refine ga0A ?_; intro _hq)))
        (refine rtA ?_; try rfl)
        exact congrArg vB hfin
    · have hLb : (L == 2) = false := by simp [hL2]
      clear main hC2
      (refine kM Try.func3 rfl ?_; intro hfit hfe)
      (repeat (first | refine gq_LTU ?_ | (refine ga0A ?_; intro _hq)))
      (refine rtA ?_; try rfl)
      exact congrArg vB hfin
end Go.Proofs.Ytfbcblknahicdaa
