/- LNG: laid into one text. -/
import Derived.Test.YtnenhckongccgaaGreatDoorQFZD

namespace Go.Proofs.YtnenhckongccgaaGreatDoor
set_option linter.unusedVariables false
set_option linter.unusedSimpArgs false
set_option maxRecDepth 20000
open Go.RowKit
attribute [local irreducible] runA runX AW
theorem gq_LNG {H G : Prop} (k : H) (h : Hid H → G := by (intro hh; repeat1' (first | (first | ((first | refine r_none ?_ | refine r_gt (by rfl) (by rfl) zDD (by rfl) ?_ | refine r_gf (by rfl) (by rfl) zDD (by rfl) ?_); (first | (first | refine r_sne (by rfl) (by rfl) (by rfl) ?_ | refine r_slen (by rfl) Tryz.underlying9 (by rfl) ?_ | refine r_sadd (by rfl) (by rfl) (by first | omega | (simp only [List.length_append, List.length_cons, List.length_nil]; omega)) (by rfl) ?_ | refine r_i2b (by rfl) (fun w => by rfl) (by omega) (by rfl) ?_ | refine r_bstr1 (by rfl) (by rfl) (by rfl) (by rfl) Tryz.underlying22 Tryz.underlying5 Tryz.underlying9 (by exact ⟨rfl, rfl, Nat.zero_lt_one, rfl⟩) (by rfl) ?_) | ((first | (refine z_op (by rfl) ?_; first | refine z_ok ?_ ?_ | refine z_ex ?_ (by first | exact zL1 | ((first | refine mk_c (List UInt8) rfl rfl rfl ?_); exact zWW) | exact zL2 | (first | exact rw_c UInt8 rfl | exact rw_c (List UInt8) rfl) | exact zL3 | fail) ?_) | ((first | refine q_callE wsTLF wsZLF (by rfl) ?_ | refine q_callVE wsTLF (by rfl) (by rfl) ?_); refine ⟨_, _, _, (by first | assumption | exact k_toBn _ _ _ _ _ (by omega) | exact k_eqBn _ _ _ _ _ (by omega) | exact k_markBn0 _ _ _ _), _, by rfl, ?_, ?_⟩)); focus (first | exact trivial | fail | exact zQZ)) | fail)) | refine r_nt (by rfl) (by rfl) zDD (by rfl) ?_ | refine r_nf (by rfl) (by rfl) zDD (by rfl) ?_ | refine r_gu (by rfl) (by rfl) (by rfl) ?_ | refine r_nil ?_) | (first | refine aw_seq ?_ | refine aw_ct (by rfl) zDD ?_ | refine aw_cf (by rfl) zDD ?_ | refine aw_block ?_ | refine aw_region T0ok cfU_ok (by rfl) ?_ | refine aw_skip ?_ | refine aw_exit ?_ | refine ra_step ?_)); exact hh.out)) : G := h ⟨k⟩
theorem ga_LNG {H G : Prop} (k : H) (h : Hid H → G := by (intro hh; (first | refine r_none ?_ | refine r_gt (by rfl) (by rfl) zDD (by rfl) ?_ | refine r_gf (by rfl) (by rfl) zDD (by rfl) ?_); refine z_op (by rfl) ?_; refine z_alV ?_ hh.out; focus (first | exact trivial | fail | exact zQZ))) : G := h ⟨k⟩
set_option maxHeartbeats 16000000 in
theorem k_lawXBS (n : Int) (l : List Gt) (f w a : Int) (hl : l.length ≤ 9223372036854775807) (hr : -9223372036854775808 ≤ n ∧ n ≤ 9223372036854775807) (ls : List (List UInt8)) (hll : ls.length ≤ 9223372036854775807) (hlx : ∀ x ∈ ls, x.length ≤ 9223372036854775807) : Kon Tryz.prog 5 [bG n l f w a, roA ls] [] (vB true) [] [] := by
  have hS := k_szBn n l f w a 1048576 ⟨hl, by omega, by omega⟩
  rcases Int.lt_or_le (1048576 - (l.length : Int)) 0 with h0 | h0
  · rw [if_pos h0] at hS
    (refine kM Tryz.func5 rfl ?_; intro hfit hfe)
    (repeat (first | refine gq_LNG ?_ | (refine ga_LNG ?_; intro _hq)))
    (refine rtA ?_; try rfl)
  rw [if_neg (by omega)] at hS
  have hl2 : l.length ≤ 1048576 := by omega
  have hd : decide (1048576 - (l.length : Int) < 0) = false := decide_eq_false (by omega)
  have hS2 := k_szSs ls (1048576 - (l.length : Int)) ⟨hll, by omega, by omega⟩ hlx
  obtain ⟨R, hR0⟩ : ∃ R, (if 1048576 - (l.length : Int) - (ls.length : Int) < 0 then -1 else szL (1048576 - (l.length : Int) - (ls.length : Int)) ls) = R := ⟨_, rfl⟩
  rw [hR0] at hS2
  rcases Int.lt_or_le R 0 with h1 | h1
  · have hdR : decide (R < 0) = true := decide_eq_true h1
    clear hR0 hlx
    (refine kM Tryz.func5 rfl ?_; intro hfit hfe)
    (repeat (first | refine gq_LNG ?_ | (refine ga_LNG ?_; intro _hq)))
    (refine rtA ?_; try rfl)
  have hdR : decide (R < 0) = false := decide_eq_false (by omega)
  have h2 : ¬ 1048576 - (l.length : Int) - (ls.length : Int) < 0 := fun hc => by rw [if_pos hc] at hR0; omega
  rw [if_neg h2] at hR0
  have hls : ∀ x ∈ ls, x.length ≤ 7000000 := fun x hx => by
    have := szL_ok ls (1048576 - (l.length : Int) - (ls.length : Int)) (by rw [hR0]; exact h1) (by omega) x hx
    omega
  have hds2 : ls.length ≤ 1048576 := by omega
  clear hR0 hlx h2
  have hd2 : decide (1 + 4 * (l.length : Int) + (ls.length : Int) < 0) = false := decide_eq_false (by omega)
  have hE0 := k_eqBn n l f w a (by omega)
  have hT := k_toBn n l f w a (by omega)
  have hTS := k_toSs ls (by omega)
  have hES := k_eqSs ls (by omega)
  have hMk := k_markBn n l l.length f w a 1 (by omega)
  have hMS := k_markSs ls ls.length (1 + 4 * (l.length : Int)) (by omega)
  generalize mkS (1 + 4 * (l.length : Int)) ls ls.length = ls' at *
  by_cases hv : bok n l f w a = false ∨ 40 < ls.length
  · have hI := k_syI0 n l f w a ls (by omega) hr hv (by omega)
    have hSp := k_syS0 n l f w a ls (by omega) hr hv (by omega)
    have hE := k_eqBn 0 [] 0 0 0 (by simp)
    have hH := k_heldBn 0 [] 0 0 0 1 (by simp) (fun j hj => by simp at hj)
    have hEA : Kon Tryz.prog 25 [.g (.one (.ro 1 0 [])), .g (.one (.ro 1 0 []))] [] (vB true) [] [] := k_eqSs [] (by decide)
    have hHS : Kon Tryz.prog 29 [.g (.one (.ro 1 0 [])), vI 1] [] (vI 1) [] [] := k_heldSs [] 1 (by simp) (fun j hj => by simp at hj)
    have hM0 := k_markS0 1
    clear hv hls
    (refine kM Tryz.func5 rfl ?_; intro hfit hfe)
    (repeat (first | refine gq_LNG ?_ | (refine ga_LNG ?_; intro _hq)))
    (refine aw_draw mixed T0ok cfU_ok [(912, [2, 3])] (by rfl) (by kernel_rfl) ?_)
    (repeat (first | refine gq_LNG ?_ | (refine ga_LNG ?_; intro _hq)))
    (refine rtA ?_; try rfl)
  · have hb : bok n l f w a = true := by
      cases h : bok n l f w a with
      | true => rfl
      | false => exact absurd (.inl h) hv
    have h40 : ls.length ≤ 40 := by omega
    clear hv
    obtain ⟨A, rfl⟩ : ∃ A : Nat, a = (A : Int) := ⟨a.toNat, by have := (bok_t hb).2.2.1; omega⟩
    rcases hR : sayN n f (l, w, A) ls ls.length with ⟨⟨l', w', A'⟩, ans⟩
    have hI := kn_syI hb h40 hls hR
    have hSp := kn_syS hb h40 hls hR
    have hb' := sayN_ok (x := (l, w, A)) hb ls ls.length
    have han := sayN_len n f (l, w, A) ls ls.length
    rw [hR] at hb' han
    dsimp only at hb' han
    have hl' := (cokB_t (bok_t hb').1).2.1
    have hE := k_eqBn n l' f w' A' (by omega)
    have hEA := k_eqSs ans (by omega)
    have hH : Kon Tryz.prog 28 [.g (.agg [.v (.int .i64 n), .ro (Cel.sz Gt) (mkG 1 l' l'.length).length (cV (mkG 1 l' l'.length)), .v (.int .i64 f), .v (.int .i64 w'), .v (.int .i64 (A' : Int))]), vI 1] [] (vI (1 + 4 * ((mkG 1 l' l'.length).length : Int))) [] [] := k_heldBn n (mkG 1 l' l'.length) f w' A' 1 (by rw [mkG_len]; omega) (fun j hj => mkG_at 1 l' l'.length j (by rw [mkG_len] at hj; exact hj) (Nat.le_refl _))
    rw [mkG_len] at hH
    have hHS : Kon Tryz.prog 29 [.g (.one (.ro (Cel.sz (List UInt8)) (mkS (1 + 4 * (l'.length : Int)) ans ans.length).length (cV (mkS (1 + 4 * (l'.length : Int)) ans ans.length)))), vI (1 + 4 * (l'.length : Int))] [] (vI (1 + 4 * (l'.length : Int) + ((mkS (1 + 4 * (l'.length : Int)) ans ans.length).length : Int))) [] [] := k_heldSs (mkS (1 + 4 * (l'.length : Int)) ans ans.length) (1 + 4 * (l'.length : Int)) (by rw [mkS_len]; omega) (fun j hj => mkS_at _ ans ans.length j (by rw [mkS_len] at hj; exact hj) (Nat.le_refl _))
    rw [mkS_len] at hHS
    have hMk' := k_markBn n l' l'.length f w' A' 1 (by omega)
    have hMS' := k_markSs ans ans.length (1 + 4 * (l'.length : Int)) (by omega)
    have hml := mkG_len 1 l' l'.length
    have hsl := mkS_len (1 + 4 * (l'.length : Int)) ans ans.length
    generalize mkG 1 l' l'.length = X' at *
    generalize mkS (1 + 4 * (l'.length : Int)) ans ans.length = Y' at *
    have hd3 : decide (1 + 4 * (l'.length : Int) < 0) = false := decide_eq_false (by omega)
    have hd4 : decide (1 + 4 * (l'.length : Int) + (ans.length : Int) < 0) = false := decide_eq_false (by omega)
    have hq : ((1 + 4 * (l'.length : Int) + (ans.length : Int)) != 1 + 4 * (l'.length : Int) + (ans.length : Int)) = false := by simp
    clear hR hb hb' hls
    (refine kM Tryz.func5 rfl ?_; intro hfit hfe)
    (repeat (first | refine gq_LNG ?_ | (refine ga_LNG ?_; intro _hq)))
    (refine aw_draw mixed T0ok cfU_ok [(912, [2, 3])] (by rfl) (by kernel_rfl) ?_)
    (repeat (first | refine gq_LNG ?_ | (refine ga_LNG ?_; intro _hq)))
    (refine rtA ?_; try rfl)
end Go.Proofs.YtnenhckongccgaaGreatDoor
