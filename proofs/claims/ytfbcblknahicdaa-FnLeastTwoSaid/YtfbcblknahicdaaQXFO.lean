/- KGI: laid into one text. -/
import Derived.Test.YtfbcblknahicdaaQXFM
import Derived.Test.YtfbcblknahicdaaQXFN

namespace Go.Proofs.Ytfbcblknahicdaa
set_option linter.unusedVariables false
set_option linter.unusedSimpArgs false
set_option maxRecDepth 20000
open Go.RowKit
attribute [local irreducible] runA runX AW
theorem gq_KGI {H G : Prop} (k : H) (h : Hid H → G := by (intro hh; repeat1' (first | (first | (refine nxA ?_; (first | fail | ((first | (refine z_op (by rfl) ?_; first | refine z_ok ?_ ?_ | refine z_ex ?_ (by first | exact zL1 | ((first | fail); exact zWW) | exact zL2 | fail | exact zL3 | fail) ?_) | ((first | refine q_callE wsT wsZ (by rfl) ?_ | refine q_callVE wsT (by rfl) (by rfl) ?_); refine ⟨_, _, _, (by first | assumption | exact k_okL _ | exact k_l1In _ _ _ | exact k_wvS2 _ _ | exact k_wv _ _ | exact k_gv _ _ | exact k_gvS _ _ (by omega) | exact k_bitS _ _ (by omega) | exact k_turnS _ _ (by omega)), _, by rfl, ?_, ?_⟩)); focus (first | exact trivial | fail | exact zQZ)) | fail)) | refine swA ?_) | refine awA ?_); exact hh.out)) : G := h ⟨k⟩
theorem wvB_t {n w : Int} (h : wvB n w = true) : (1 ≤ n ∧ n ≤ 8) ∧ 0 ≤ w ∧ w < 2 ^ n.toNat ∧ w < 256 := by
  unfold wvB at h
  rw [Bool.and_eq_true] at h
  have h1 := btw_t h.1
  have h2 := btw_t h.2
  have h3 := pow_8 h1
  omega
theorem xor2 (w a b : Nat) : ((((w ^^^ 2 ^ a : Nat) : Int)).toNat ^^^ 2 ^ b : Nat) = w ^^^ (2 ^ a ^^^ 2 ^ b) := by rw [Int.toNat_natCast, Nat.xor_assoc]
theorem xor_b {w : Int} {a : Int} (hw : 0 ≤ w ∧ w < 256) (ha : 0 ≤ a ∧ a ≤ 7) : 0 ≤ ((w.toNat ^^^ 2 ^ a.toNat : Nat) : Int) ∧ ((w.toNat ^^^ 2 ^ a.toNat : Nat) : Int) < 256 := by
  have := Nat.xor_lt_two_pow (n := 8) (x := w.toNat) (y := 2 ^ a.toNat) (by omega) (Nat.pow_lt_pow_right (by omega) (by omega))
  omega
set_option maxHeartbeats 2000000 in
theorem k_grS1 (n : Int) (g : Gt) (w : Int) (h : gok n g = true) (hw : wvB n w = true) : Kon Try.prog 21 [vI n, gV g, vI w] [] (vI (gr g w)) [] [] := by
  obtain ⟨hn, hf⟩ := gok_facts h
  have hb := gok_bd h
  have hv := wvB_t hw
  have hK := k_gvS n g (by omega)
  rw [h] at hK
  rw [gr_if g hv.2.1]
  rcases hf with ⟨hk, _⟩ | ⟨hk | hk, _⟩ | ⟨hk | hk, _⟩
  · rw [gc0 hk, gm0 hk]
    clear h
    obtain ⟨k, a, b, c⟩ := g
    dsimp only at *
    subst hk
    have xb := xor_b (w := w) (a := a) ⟨hv.2.1, by omega⟩ (by omega)
    have xc := xor_b (w := w) (a := b) ⟨hv.2.1, by omega⟩ (by omega)
    have hB1 := k_bitS w a (by omega)
    have hB2 := k_bitS w b (by omega)
    have hB3 := k_bitS w c (by omega)
    have hT1 := k_turnS w a (by omega)
    have hT2 := k_turnS w b (by omega)
    have hT3 := k_turnS w c (by omega)
    have hT4 := k_turnS _ b ⟨xb.1, xb.2, by omega, by omega⟩
    have hT5 := k_turnS _ c ⟨xc.1, xc.2, by omega, by omega⟩
    skip
    all_goals
      (refine kM Try.func21 rfl ?_; intro hfit hfe)
      clear hfit hfe
      (repeat (first | refine gq_KGI ?_ | (refine ga0A ?_; intro _hq) | refine gdA ?_))
      (refine rtA ?_; try rfl)
      try (exact congrArg (fun x : Nat => vI (x : Int)) (xor2 _ _ _))
  · rw [gc1 hk, gm1 hk]
    clear h
    obtain ⟨k, a, b, c⟩ := g
    dsimp only at *
    subst hk
    have xb := xor_b (w := w) (a := a) ⟨hv.2.1, by omega⟩ (by omega)
    have xc := xor_b (w := w) (a := b) ⟨hv.2.1, by omega⟩ (by omega)
    have hB1 := k_bitS w a (by omega)
    have hB2 := k_bitS w b (by omega)
    have hB3 := k_bitS w c (by omega)
    have hT1 := k_turnS w a (by omega)
    have hT2 := k_turnS w b (by omega)
    have hT3 := k_turnS w c (by omega)
    have hT4 := k_turnS _ b ⟨xb.1, xb.2, by omega, by omega⟩
    have hT5 := k_turnS _ c ⟨xc.1, xc.2, by omega, by omega⟩
    cases hx : bt w a <;> rw [hx] at hB1
    all_goals
      (refine kM Try.func21 rfl ?_; intro hfit hfe)
      clear hfit hfe
      (repeat (first | refine gq_KGI ?_ | (refine ga0A ?_; intro _hq) | refine gdA ?_))
      (refine rtA ?_; try rfl)
      try (exact congrArg (fun x : Nat => vI (x : Int)) (xor2 _ _ _))
  · rw [gc3 hk, gm3 hk]
    clear h
    obtain ⟨k, a, b, c⟩ := g
    dsimp only at *
    subst hk
    have xb := xor_b (w := w) (a := a) ⟨hv.2.1, by omega⟩ (by omega)
    have xc := xor_b (w := w) (a := b) ⟨hv.2.1, by omega⟩ (by omega)
    have hB1 := k_bitS w a (by omega)
    have hB2 := k_bitS w b (by omega)
    have hB3 := k_bitS w c (by omega)
    have hT1 := k_turnS w a (by omega)
    have hT2 := k_turnS w b (by omega)
    have hT3 := k_turnS w c (by omega)
    have hT4 := k_turnS _ b ⟨xb.1, xb.2, by omega, by omega⟩
    have hT5 := k_turnS _ c ⟨xc.1, xc.2, by omega, by omega⟩
    cases hx : bt w a <;> cases hy : bt w b <;> rw [hx] at hB1 <;> rw [hy] at hB2
    all_goals
      (refine kM Try.func21 rfl ?_; intro hfit hfe)
      clear hfit hfe
      (repeat (first | refine gq_KGI ?_ | (refine ga0A ?_; intro _hq) | refine gdA ?_))
      (refine rtA ?_; try rfl)
      try (exact congrArg (fun x : Nat => vI (x : Int)) (xor2 _ _ _))
  · rw [gc2 hk, gm2 hk]
    clear h
    obtain ⟨k, a, b, c⟩ := g
    dsimp only at *
    subst hk
    have xb := xor_b (w := w) (a := a) ⟨hv.2.1, by omega⟩ (by omega)
    have xc := xor_b (w := w) (a := b) ⟨hv.2.1, by omega⟩ (by omega)
    have hB1 := k_bitS w a (by omega)
    have hB2 := k_bitS w b (by omega)
    have hB3 := k_bitS w c (by omega)
    have hT1 := k_turnS w a (by omega)
    have hT2 := k_turnS w b (by omega)
    have hT3 := k_turnS w c (by omega)
    have hT4 := k_turnS _ b ⟨xb.1, xb.2, by omega, by omega⟩
    have hT5 := k_turnS _ c ⟨xc.1, xc.2, by omega, by omega⟩
    cases hx : bt w a <;> cases hy : bt w b <;> rw [hx] at hB1 <;> rw [hy] at hB2
    all_goals
      (refine kM Try.func21 rfl ?_; intro hfit hfe)
      clear hfit hfe
      (repeat (first | refine gq_KGI ?_ | (refine ga0A ?_; intro _hq) | refine gdA ?_))
      (refine rtA ?_; try rfl)
      try (exact congrArg (fun x : Nat => vI (x : Int)) (xor2 _ _ _))
  · rw [gc4 hk, gm4 hk]
    clear h
    obtain ⟨k, a, b, c⟩ := g
    dsimp only at *
    subst hk
    have xb := xor_b (w := w) (a := a) ⟨hv.2.1, by omega⟩ (by omega)
    have xc := xor_b (w := w) (a := b) ⟨hv.2.1, by omega⟩ (by omega)
    have hB1 := k_bitS w a (by omega)
    have hB2 := k_bitS w b (by omega)
    have hB3 := k_bitS w c (by omega)
    have hT1 := k_turnS w a (by omega)
    have hT2 := k_turnS w b (by omega)
    have hT3 := k_turnS w c (by omega)
    have hT4 := k_turnS _ b ⟨xb.1, xb.2, by omega, by omega⟩
    have hT5 := k_turnS _ c ⟨xc.1, xc.2, by omega, by omega⟩
    cases hx : bt w a <;> cases hy : bt w b <;> cases hz : bt w c <;> rw [hx] at hB1 <;> rw [hy] at hB2 <;> rw [hz] at hB3
    all_goals
      (refine kM Try.func21 rfl ?_; intro hfit hfe)
      clear hfit hfe
      (repeat (first | refine gq_KGI ?_ | (refine ga0A ?_; intro _hq) | refine gdA ?_))
      (refine rtA ?_; try rfl)
      try (exact congrArg (fun x : Nat => vI (x : Int)) (xor2 _ _ _))
end Go.Proofs.Ytfbcblknahicdaa
