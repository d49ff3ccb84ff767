/- KGF: laid into one text. -/
import Derived.Test.YtfbcblknahicdaaQXFJ

namespace Go.Proofs.Ytfbcblknahicdaa
set_option linter.unusedVariables false
set_option linter.unusedSimpArgs false
set_option maxRecDepth 20000
open Go.RowKit
attribute [local irreducible] runA runX AW
theorem gq_KGF {H G : Prop} (k : H) (h : Hid H → G := by (intro hh; repeat1' (first | (first | (refine nxA ?_; (first | fail | ((first | (refine z_op (by rfl) ?_; first | refine z_ok ?_ ?_ | refine z_ex ?_ (by first | exact zL1 | ((first | fail); exact zWW) | exact zL2 | fail | exact zL3 | fail) ?_) | ((first | refine q_callE wsT wsZ (by rfl) ?_ | refine q_callVE wsT (by rfl) (by rfl) ?_); refine ⟨_, _, _, (by first | assumption), _, by rfl, ?_, ?_⟩)); focus (first | exact trivial | fail | exact zQZ)) | fail)) | refine swA ?_) | refine awA ?_); exact hh.out)) : G := h ⟨k⟩
theorem gs_KGF {H G : Prop} (k : H) (h : Hid H → G := by (intro hh; repeat1' (first | (refine nxA ?_; (first | fail | ((first | (refine z_op (by rfl) ?_; first | refine z_ok ?_ ?_ | refine z_ex ?_ (by first | exact zL1 | ((first | fail); exact zWW) | exact zL2 | fail | exact zL3 | fail) ?_) | ((first | refine q_callE wsT wsZ (by rfl) ?_ | refine q_callVE wsT (by rfl) (by rfl) ?_); refine ⟨_, _, _, (by first | assumption), _, by rfl, ?_, ?_⟩)); focus (first | exact trivial | fail | exact zQZ)) | fail)) | refine swA ?_); exact hh.out)) : G := h ⟨k⟩
theorem ite_01 (b : Bool) : 0 ≤ (if b = true then 1 else 0 : Int) ∧ (if b = true then 1 else 0 : Int) ≤ 1 := by cases b <;> decide
set_option maxHeartbeats 1000000 in
theorem k_run (n : Int) (g : Gt) (w : Int) (h : gok n g = true) (hw : 0 ≤ w ∧ w < 256) : Kon Try.prog 17 [gV g, vI w] [] (vI (gr g w)) [] [] := by
  obtain ⟨hn, hf⟩ := gok_facts h
  have hb := gok_bd h
  have hr := gr_if g hw.1
  have sa := sb_and (w := w) (a := g.a) hw.1
  have sb := sb_and (w := w) (a := g.b) hw.1
  have sc := sb_and (w := w) (a := g.c) hw.1
  have pa := pow_7 (n := g.a) (by omega)
  have pb := pow_7 (n := g.b) (by omega)
  have pc := pow_7 (n := g.c) (by omega)
  have ia := ite_01 (bt w g.a)
  have ib := ite_01 (bt w g.b)
  have ic := ite_01 (bt w g.c)
  have e8 : ∀ x : Int, (1 * 2 ^ x.toNat : Int).toNat = 2 ^ x.toNat := fun x => by rw [Int.one_mul, pow_nat]
  have e9 : ∀ x : Int, (0 * 2 ^ x.toNat : Int).toNat = 0 := fun x => by rw [Int.zero_mul]; rfl
  have ew : ((w.toNat : Nat) : Int) = w := Int.toNat_of_nonneg hw.1
  rw [hr]
  rcases hf with ⟨hk, _⟩ | ⟨hk | hk, _⟩ | ⟨hk | hk, _⟩
  · rw [gc0 hk, gm0 hk]
    clear h hr
    obtain ⟨k, a, b, c⟩ := g
    dsimp only at *
    subst hk
    (refine kM Try.func17 rfl ?_; intro hfit hfe)
    clear hfit hfe
    (first | refine aw_seq ?_ | refine aw_ct (by rfl) zDD ?_ | refine aw_cf (by rfl) zDD ?_ | refine aw_block ?_ | refine aw_region T0ok cfU_ok (by rfl) ?_ | refine aw_skip ?_ | refine aw_exit ?_ | refine ra_step ?_); (first | refine aw_seq ?_ | refine aw_ct (by rfl) zDD ?_ | refine aw_cf (by rfl) zDD ?_ | refine aw_block ?_ | refine aw_region T0ok cfU_ok (by rfl) ?_ | refine aw_skip ?_ | refine aw_exit ?_ | refine ra_step ?_); (repeat (first | refine gq_KGF ?_ | (refine ga0A ?_; intro _hq))); (refine aw_draw mixed T0ok cfU_ok [] (by rfl) (by kernel_rfl) ?_)
    (repeat (first | refine gs_KGF ?_ | (refine ga0A ?_; intro _hq)))
    rw [sa, sb, sc]
    clear sa sb sc
    (repeat (first | refine gq_KGF ?_ | (refine ga0A ?_; intro _hq) | refine gdA ?_))
    (refine rtA ?_; try rfl)
    cases bt w a <;> cases bt w b <;> cases bt w c <;> simp only [Int.toNat_zero, Int.toNat_one, e8, e9, ew, Nat.xor_zero, Bool.and_true, Bool.and_false, Bool.true_and, Bool.false_and, Int.toNat_natCast, Nat.xor_assoc, if_true, if_false, Bool.false_eq_true, Nat.and_self, Nat.xor_self, Nat.zero_and, Nat.and_zero, Nat.zero_xor, Int.natCast_zero, Int.natCast_one, bne_self_eq_false, Bool.true_bne, Bool.false_bne, Bool.not_false, Bool.not_true] <;> rfl
  · rw [gc1 hk, gm1 hk]
    clear h hr
    obtain ⟨k, a, b, c⟩ := g
    dsimp only at *
    subst hk
    (refine kM Try.func17 rfl ?_; intro hfit hfe)
    clear hfit hfe
    (first | refine aw_seq ?_ | refine aw_ct (by rfl) zDD ?_ | refine aw_cf (by rfl) zDD ?_ | refine aw_block ?_ | refine aw_region T0ok cfU_ok (by rfl) ?_ | refine aw_skip ?_ | refine aw_exit ?_ | refine ra_step ?_); (first | refine aw_seq ?_ | refine aw_ct (by rfl) zDD ?_ | refine aw_cf (by rfl) zDD ?_ | refine aw_block ?_ | refine aw_region T0ok cfU_ok (by rfl) ?_ | refine aw_skip ?_ | refine aw_exit ?_ | refine ra_step ?_); (repeat (first | refine gq_KGF ?_ | (refine ga0A ?_; intro _hq))); (refine aw_draw mixed T0ok cfU_ok [] (by rfl) (by kernel_rfl) ?_)
    (repeat (first | refine gs_KGF ?_ | (refine ga0A ?_; intro _hq)))
    rw [sa, sb, sc]
    clear sa sb sc
    (repeat (first | refine gq_KGF ?_ | (refine ga0A ?_; intro _hq) | refine gdA ?_))
    (refine rtA ?_; try rfl)
    cases bt w a <;> cases bt w b <;> cases bt w c <;> simp only [Int.toNat_zero, Int.toNat_one, e8, e9, ew, Nat.xor_zero, Bool.and_true, Bool.and_false, Bool.true_and, Bool.false_and, Int.toNat_natCast, Nat.xor_assoc, if_true, if_false, Bool.false_eq_true, Nat.and_self, Nat.xor_self, Nat.zero_and, Nat.and_zero, Nat.zero_xor, Int.natCast_zero, Int.natCast_one, bne_self_eq_false, Bool.true_bne, Bool.false_bne, Bool.not_false, Bool.not_true] <;> rfl
  · rw [gc3 hk, gm3 hk]
    clear h hr
    obtain ⟨k, a, b, c⟩ := g
    dsimp only at *
    subst hk
    (refine kM Try.func17 rfl ?_; intro hfit hfe)
    clear hfit hfe
    (first | refine aw_seq ?_ | refine aw_ct (by rfl) zDD ?_ | refine aw_cf (by rfl) zDD ?_ | refine aw_block ?_ | refine aw_region T0ok cfU_ok (by rfl) ?_ | refine aw_skip ?_ | refine aw_exit ?_ | refine ra_step ?_); (first | refine aw_seq ?_ | refine aw_ct (by rfl) zDD ?_ | refine aw_cf (by rfl) zDD ?_ | refine aw_block ?_ | refine aw_region T0ok cfU_ok (by rfl) ?_ | refine aw_skip ?_ | refine aw_exit ?_ | refine ra_step ?_); (repeat (first | refine gq_KGF ?_ | (refine ga0A ?_; intro _hq))); (refine aw_draw mixed T0ok cfU_ok [] (by rfl) (by kernel_rfl) ?_)
    (repeat (first | refine gs_KGF ?_ | (refine ga0A ?_; intro _hq)))
    rw [sa, sb, sc]
    clear sa sb sc
    (repeat (first | refine gq_KGF ?_ | (refine ga0A ?_; intro _hq) | refine gdA ?_))
    (refine rtA ?_; try rfl)
    cases bt w a <;> cases bt w b <;> cases bt w c <;> simp only [Int.toNat_zero, Int.toNat_one, e8, e9, ew, Nat.xor_zero, Bool.and_true, Bool.and_false, Bool.true_and, Bool.false_and, Int.toNat_natCast, Nat.xor_assoc, if_true, if_false, Bool.false_eq_true, Nat.and_self, Nat.xor_self, Nat.zero_and, Nat.and_zero, Nat.zero_xor, Int.natCast_zero, Int.natCast_one, bne_self_eq_false, Bool.true_bne, Bool.false_bne, Bool.not_false, Bool.not_true] <;> rfl
  · rw [gc2 hk, gm2 hk]
    clear h hr
    obtain ⟨k, a, b, c⟩ := g
    dsimp only at *
    subst hk
    (refine kM Try.func17 rfl ?_; intro hfit hfe)
    clear hfit hfe
    (first | refine aw_seq ?_ | refine aw_ct (by rfl) zDD ?_ | refine aw_cf (by rfl) zDD ?_ | refine aw_block ?_ | refine aw_region T0ok cfU_ok (by rfl) ?_ | refine aw_skip ?_ | refine aw_exit ?_ | refine ra_step ?_); (first | refine aw_seq ?_ | refine aw_ct (by rfl) zDD ?_ | refine aw_cf (by rfl) zDD ?_ | refine aw_block ?_ | refine aw_region T0ok cfU_ok (by rfl) ?_ | refine aw_skip ?_ | refine aw_exit ?_ | refine ra_step ?_); (repeat (first | refine gq_KGF ?_ | (refine ga0A ?_; intro _hq))); (refine aw_draw mixed T0ok cfU_ok [] (by rfl) (by kernel_rfl) ?_)
    (repeat (first | refine gs_KGF ?_ | (refine ga0A ?_; intro _hq)))
    rw [sa, sb, sc]
    clear sa sb sc
    (repeat (first | refine gq_KGF ?_ | (refine ga0A ?_; intro _hq) | refine gdA ?_))
    (refine rtA ?_; try rfl)
    cases bt w a <;> cases bt w b <;> cases bt w c <;> simp only [Int.toNat_zero, Int.toNat_one, e8, e9, ew, Nat.xor_zero, Bool.and_true, Bool.and_false, Bool.true_and, Bool.false_and, Int.toNat_natCast, Nat.xor_assoc, if_true, if_false, Bool.false_eq_true, Nat.and_self, Nat.xor_self, Nat.zero_and, Nat.and_zero, Nat.zero_xor, Int.natCast_zero, Int.natCast_one, bne_self_eq_false, Bool.true_bne, Bool.false_bne, Bool.not_false, Bool.not_true] <;> rfl
  · rw [gc4 hk, gm4 hk]
    clear h hr
    obtain ⟨k, a, b, c⟩ := g
    dsimp only at *
    subst hk
    (refine kM Try.func17 rfl ?_; intro hfit hfe)
    clear hfit hfe
    (first | refine aw_seq ?_ | refine aw_ct (by rfl) zDD ?_ | refine aw_cf (by rfl) zDD ?_ | refine aw_block ?_ | refine aw_region T0ok cfU_ok (by rfl) ?_ | refine aw_skip ?_ | refine aw_exit ?_ | refine ra_step ?_); (first | refine aw_seq ?_ | refine aw_ct (by rfl) zDD ?_ | refine aw_cf (by rfl) zDD ?_ | refine aw_block ?_ | refine aw_region T0ok cfU_ok (by rfl) ?_ | refine aw_skip ?_ | refine aw_exit ?_ | refine ra_step ?_); (repeat (first | refine gq_KGF ?_ | (refine ga0A ?_; intro _hq))); (refine aw_draw mixed T0ok cfU_ok [] (by rfl) (by kernel_rfl) ?_)
    (repeat (first | refine gs_KGF ?_ | (refine ga0A ?_; intro _hq)))
    rw [sa, sb, sc]
    clear sa sb sc
    (repeat (first | refine gq_KGF ?_ | (refine ga0A ?_; intro _hq) | refine gdA ?_))
    (refine rtA ?_; try rfl)
    cases bt w a <;> cases bt w b <;> cases bt w c <;> simp only [Int.toNat_zero, Int.toNat_one, e8, e9, ew, Nat.xor_zero, Bool.and_true, Bool.and_false, Bool.true_and, Bool.false_and, Int.toNat_natCast, Nat.xor_assoc, if_true, if_false, Bool.false_eq_true, Nat.and_self, Nat.xor_self, Nat.zero_and, Nat.and_zero, Nat.zero_xor, Int.natCast_zero, Int.natCast_one, bne_self_eq_false, Bool.true_bne, Bool.false_bne, Bool.not_false, Bool.not_true] <;> rfl
end Go.Proofs.Ytfbcblknahicdaa
