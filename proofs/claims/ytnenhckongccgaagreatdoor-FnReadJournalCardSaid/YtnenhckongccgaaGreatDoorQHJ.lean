/- DT: laid into one text. -/
import Derived.Test.YtnenhckongccgaaGreatDoorQHI

namespace Go.Proofs.YtnenhckongccgaaGreatDoor
set_option linter.unusedVariables false
set_option linter.unusedSimpArgs false
set_option maxRecDepth 20000
open Go.RowKit
open Go.Lib (decDigits)
attribute [local irreducible] runA runX AW
theorem gq_DT {H G : Prop} (k : H) (h : Hid H → G := by (intro hh; repeat1' (first | (first | (refine nxA ?_; (first | (first | refine r_slen (by rfl) Tryz.underlying9 (by rfl) ?_ | refine r_seq (by rfl) (by rfl) (by rfl) ?_ | refine r_sne (by rfl) (by rfl) (by rfl) ?_ | refine r_sadd (by rfl) (by rfl) (by first | omega | (simp only [List.length_append, List.length_cons, List.length_nil]; omega)) (by rfl) ?_) | ((first | (refine z_op (by rfl) ?_; first | refine z_ok ?_ ?_ | refine z_ex ?_ (by first | exact zL1 | ((first | fail); exact zWW) | exact zL2 | (first | exact rw_c (List UInt8) rfl | exact rw_c Int rfl) | exact zL3 | fail) ?_) | ((first | refine q_callE wsT wsZ (by rfl) ?_ | refine q_callVE wsT (by rfl) (by rfl) ?_); refine ⟨_, _, _, (by first | assumption | exact k_itoa _ (by omega) | exact k_num _ (by omega) | exact k_l1In _ _ _), _, by rfl, ?_, ?_⟩)); focus (first | exact trivial | fail | exact zQZ)) | fail)) | refine swA ?_) | refine awA ?_); exact hh.out)) : G := h ⟨k⟩
theorem k_kindS (k : Int) (h : 0 ≤ k ∧ k ≤ 4) : Kon Tryz.prog 101 [vI k] [] (vS (gnm k)) [] [] := by
  have h' : k = 0 ∨ k = 1 ∨ k = 2 ∨ k = 3 ∨ k = 4 := by omega
  rcases h' with rfl | rfl | rfl | rfl | rfl
  all_goals (refine kM Tryz.func101 rfl ?_; intro hfit hfe)
  all_goals ((repeat (first | refine gq_DT ?_ | (refine ga0A ?_; intro _hq))))
  all_goals ((refine rtA ?_; try rfl))
theorem dx_len {x : Int} (h : 0 ≤ x ∧ x ≤ 9) : (dx x).length = 1 := by rw [(dx1 h).1]; rfl
theorem k_gtI0 (a : Int) (h : gok 8 ⟨0, a, 0, 0⟩ = true) : Kon Tryz.prog 81 [gV ⟨0, a, 0, 0⟩] [] (vS (gtT ⟨0, a, 0, 0⟩)) [] [] := by
  obtain ⟨_, _, ha, _, _⟩ := gok_bd h
  dsimp only at ha
  have l1 : (decDigits a.toNat).length = 1 := dx_len (x := a) (by omega)
  have l0 := gnm_len 0
  have hV := k_gv 8 ⟨0, a, 0, 0⟩
  rw [h] at hV
  have hN := k_nat1 ⟨0, a, 0, 0⟩ ⟨by dsimp only; omega, by dsimp only; omega⟩
  have hS : Kon Tryz.prog 118 [gV ⟨0, a, 0, 0⟩, vI 1] [] (slA 0 0 [a]) [iRow [a]] [] := k_some _ 1 (by decide)
  have hJ := k_jo [gnm 0, dx a] (gnm 0 ++ [32] ++ dx a) (join_2 _ _ _) (by simp) (by simp only [dx, List.length_append, List.length_cons, List.length_nil]; omega)
  (refine kM Tryz.func81 rfl ?_; intro hfit hfe)
  (repeat (first | refine gq_DT ?_ | (refine ga0A ?_; intro _hq)))
  refine aw_unroll 4 ?_
  (repeat (first | refine gq_DT ?_ | (refine ga0A ?_; intro _hq)))
  (refine rtA ?_; try rfl)
theorem k_gtI1 (a b : Int) (h : gok 8 ⟨1, a, b, 0⟩ = true) : Kon Tryz.prog 81 [gV ⟨1, a, b, 0⟩] [] (vS (gtT ⟨1, a, b, 0⟩)) [] [] := by
  obtain ⟨_, _, ha, hb, _⟩ := gok_bd h
  dsimp only at ha hb
  have l1 : (decDigits a.toNat).length = 1 := dx_len (x := a) (by omega)
  have l2 : (decDigits b.toNat).length = 1 := dx_len (x := b) (by omega)
  have l0 := gnm_len 1
  have hV := k_gv 8 ⟨1, a, b, 0⟩
  rw [h] at hV
  have hN := k_nat1 ⟨1, a, b, 0⟩ ⟨by dsimp only; omega, by dsimp only; omega⟩
  have hS : Kon Tryz.prog 118 [gV ⟨1, a, b, 0⟩, vI 3] [] (slA 0 0 [a, b]) [iRow [a, b]] [] := k_some _ 3 (by decide)
  have hJ := k_jo [gnm 1, dx a, dx b] (gnm 1 ++ [32] ++ dx a ++ [32] ++ dx b) (join_3 _ _ _ _) (by simp) (by simp only [dx, List.length_append, List.length_cons, List.length_nil]; omega)
  (refine kM Tryz.func81 rfl ?_; intro hfit hfe)
  (repeat (first | refine gq_DT ?_ | (refine ga0A ?_; intro _hq)))
  refine aw_unroll 4 ?_
  (repeat (first | refine gq_DT ?_ | (refine ga0A ?_; intro _hq)))
  (refine rtA ?_; try rfl)
theorem k_gtI3 (a b : Int) (h : gok 8 ⟨3, a, b, 0⟩ = true) : Kon Tryz.prog 81 [gV ⟨3, a, b, 0⟩] [] (vS (gtT ⟨3, a, b, 0⟩)) [] [] := by
  obtain ⟨_, _, ha, hb, _⟩ := gok_bd h
  dsimp only at ha hb
  have l1 : (decDigits a.toNat).length = 1 := dx_len (x := a) (by omega)
  have l2 : (decDigits b.toNat).length = 1 := dx_len (x := b) (by omega)
  have l0 := gnm_len 3
  have hV := k_gv 8 ⟨3, a, b, 0⟩
  rw [h] at hV
  have hN := k_nat1 ⟨3, a, b, 0⟩ ⟨by dsimp only; omega, by dsimp only; omega⟩
  have hS : Kon Tryz.prog 118 [gV ⟨3, a, b, 0⟩, vI 3] [] (slA 0 0 [a, b]) [iRow [a, b]] [] := k_some _ 3 (by decide)
  have hJ := k_jo [gnm 3, dx a, dx b] (gnm 3 ++ [32] ++ dx a ++ [32] ++ dx b) (join_3 _ _ _ _) (by simp) (by simp only [dx, List.length_append, List.length_cons, List.length_nil]; omega)
  (refine kM Tryz.func81 rfl ?_; intro hfit hfe)
  (repeat (first | refine gq_DT ?_ | (refine ga0A ?_; intro _hq)))
  refine aw_unroll 4 ?_
  (repeat (first | refine gq_DT ?_ | (refine ga0A ?_; intro _hq)))
  (refine rtA ?_; try rfl)
theorem k_gtI2 (a b c : Int) (h : gok 8 ⟨2, a, b, c⟩ = true) : Kon Tryz.prog 81 [gV ⟨2, a, b, c⟩] [] (vS (gtT ⟨2, a, b, c⟩)) [] [] := by
  obtain ⟨_, _, ha, hb, hc⟩ := gok_bd h
  dsimp only at ha hb hc
  have l1 : (decDigits a.toNat).length = 1 := dx_len (x := a) (by omega)
  have l2 : (decDigits b.toNat).length = 1 := dx_len (x := b) (by omega)
  have l3 : (decDigits c.toNat).length = 1 := dx_len (x := c) (by omega)
  have l0 := gnm_len 2
  have hV := k_gv 8 ⟨2, a, b, c⟩
  rw [h] at hV
  have hN := k_nat1 ⟨2, a, b, c⟩ ⟨by dsimp only; omega, by dsimp only; omega⟩
  have hS : Kon Tryz.prog 118 [gV ⟨2, a, b, c⟩, vI 7] [] (slA 0 0 [a, b, c]) [iRow [a, b, c]] [] := k_some _ 7 (by decide)
  have hJ := k_jo [gnm 2, dx a, dx b, dx c] (gnm 2 ++ [32] ++ dx a ++ [32] ++ dx b ++ [32] ++ dx c) (join_4 _ _ _ _ _) (by simp) (by simp only [dx, List.length_append, List.length_cons, List.length_nil]; omega)
  (refine kM Tryz.func81 rfl ?_; intro hfit hfe)
  (repeat (first | refine gq_DT ?_ | (refine ga0A ?_; intro _hq)))
  refine aw_unroll 4 ?_
  (repeat (first | refine gq_DT ?_ | (refine ga0A ?_; intro _hq)))
  (refine rtA ?_; try rfl)
theorem k_gtI4 (a b c : Int) (h : gok 8 ⟨4, a, b, c⟩ = true) : Kon Tryz.prog 81 [gV ⟨4, a, b, c⟩] [] (vS (gtT ⟨4, a, b, c⟩)) [] [] := by
  obtain ⟨_, _, ha, hb, hc⟩ := gok_bd h
  dsimp only at ha hb hc
  have l1 : (decDigits a.toNat).length = 1 := dx_len (x := a) (by omega)
  have l2 : (decDigits b.toNat).length = 1 := dx_len (x := b) (by omega)
  have l3 : (decDigits c.toNat).length = 1 := dx_len (x := c) (by omega)
  have l0 := gnm_len 4
  have hV := k_gv 8 ⟨4, a, b, c⟩
  rw [h] at hV
  have hN := k_nat1 ⟨4, a, b, c⟩ ⟨by dsimp only; omega, by dsimp only; omega⟩
  have hS : Kon Tryz.prog 118 [gV ⟨4, a, b, c⟩, vI 7] [] (slA 0 0 [a, b, c]) [iRow [a, b, c]] [] := k_some _ 7 (by decide)
  have hJ := k_jo [gnm 4, dx a, dx b, dx c] (gnm 4 ++ [32] ++ dx a ++ [32] ++ dx b ++ [32] ++ dx c) (join_4 _ _ _ _ _) (by simp) (by simp only [dx, List.length_append, List.length_cons, List.length_nil]; omega)
  (refine kM Tryz.func81 rfl ?_; intro hfit hfe)
  (repeat (first | refine gq_DT ?_ | (refine ga0A ?_; intro _hq)))
  refine aw_unroll 4 ?_
  (repeat (first | refine gq_DT ?_ | (refine ga0A ?_; intro _hq)))
  (refine rtA ?_; try rfl)
theorem k_gtI (g : Gt) : Kon Tryz.prog 81 [gV g] [] (vS (gtx g)) [] [] := by
  unfold gtx
  cases h : gok 8 g with
  | false =>
    have hV := k_gv 8 g
    rw [h] at hV
    rw [if_neg (by decide)]
    (refine kM Tryz.func81 rfl ?_; intro hfit hfe)
    (repeat (first | refine gq_DT ?_ | (refine ga0A ?_; intro _hq)))
    (refine rtA ?_; try rfl)
  | true =>
    rw [if_pos rfl]
    obtain ⟨_, hf⟩ := gok_facts h
    obtain ⟨k, a, b, c⟩ := g
    dsimp only at hf
    rcases hf with ⟨rfl, _, rfl, rfl⟩ | ⟨rfl | rfl, _, _, _, rfl⟩ | ⟨rfl | rfl, _, _, _, _⟩
    · exact k_gtI0 a h
    · exact k_gtI1 a b h
    · exact k_gtI3 a b h
    · exact k_gtI2 a b c h
    · exact k_gtI4 a b c h
theorem k_gtS (g : Gt) : Kon Tryz.prog 52 [gV g] [] (vS (gtx g)) [] [] := by
  unfold gtx
  have hV := k_gvS 8 g (by decide)
  cases h : gok 8 g with
  | false =>
    rw [h] at hV
    rw [if_neg (by decide)]
    (refine kM Tryz.func52 rfl ?_; intro hfit hfe)
    (repeat (first | refine gq_DT ?_ | (refine ga0A ?_; intro _hq)))
    (refine rtA ?_; try rfl)
  | true =>
    rw [h] at hV
    rw [if_pos rfl]
    obtain ⟨_, hkk, ha, hb, hc⟩ := gok_bd h
    obtain ⟨_, hf⟩ := gok_facts h
    have hS := k_linesS g
    obtain ⟨k, a, b, c⟩ := g
    dsimp only at hf ha hb hc hkk hS
    have hK := k_kindS k hkk
    have l0 := gnm_len k
    have l1 : (decDigits a.toNat).length = 1 := dx_len (x := a) (by omega)
    have l2 : (decDigits b.toNat).length = 1 := dx_len (x := b) (by omega)
    have l3 : (decDigits c.toNat).length = 1 := dx_len (x := c) (by omega)
    have fin : ∀ L : List Int, lns ⟨k, a, b, c⟩ = L → Kon Tryz.prog 102 [gV ⟨k, a, b, c⟩] [] (slA 0 0 L) [iRow L] [] := fun L e => e ▸ hS
    clear hS
    rcases hf with ⟨rfl, _, rfl, rfl⟩ | ⟨rfl | rfl, _, _, _, rfl⟩ | ⟨rfl | rfl, _, _, _, _⟩
    · have hS := fin [a] rfl
      clear fin
      (refine kM Tryz.func52 rfl ?_; intro hfit hfe)
      (repeat (first | refine gq_DT ?_ | (refine ga0A ?_; intro _hq)))
      refine aw_unroll 4 ?_
      (repeat (first | refine gq_DT ?_ | (refine ga0A ?_; intro _hq)))
      (refine rtA ?_; try rfl)
    · have hS := fin [a, b] rfl
      clear fin
      (refine kM Tryz.func52 rfl ?_; intro hfit hfe)
      (repeat (first | refine gq_DT ?_ | (refine ga0A ?_; intro _hq)))
      refine aw_unroll 4 ?_
      (repeat (first | refine gq_DT ?_ | (refine ga0A ?_; intro _hq)))
      (refine rtA ?_; try rfl)
    · have hS := fin [a, b] rfl
      clear fin
      (refine kM Tryz.func52 rfl ?_; intro hfit hfe)
      (repeat (first | refine gq_DT ?_ | (refine ga0A ?_; intro _hq)))
      refine aw_unroll 4 ?_
      (repeat (first | refine gq_DT ?_ | (refine ga0A ?_; intro _hq)))
      (refine rtA ?_; try rfl)
    · have hS := fin [a, b, c] rfl
      clear fin
      (refine kM Tryz.func52 rfl ?_; intro hfit hfe)
      (repeat (first | refine gq_DT ?_ | (refine ga0A ?_; intro _hq)))
      refine aw_unroll 4 ?_
      (repeat (first | refine gq_DT ?_ | (refine ga0A ?_; intro _hq)))
      (refine rtA ?_; try rfl)
    · have hS := fin [a, b, c] rfl
      clear fin
      (refine kM Tryz.func52 rfl ?_; intro hfit hfe)
      (repeat (first | refine gq_DT ?_ | (refine ga0A ?_; intro _hq)))
      refine aw_unroll 4 ?_
      (repeat (first | refine gq_DT ?_ | (refine ga0A ?_; intro _hq)))
      (refine rtA ?_; try rfl)
end Go.Proofs.YtnenhckongccgaaGreatDoor
