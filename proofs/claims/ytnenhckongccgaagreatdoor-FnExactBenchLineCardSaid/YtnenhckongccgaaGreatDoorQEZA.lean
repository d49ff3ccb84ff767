/- LNE: laid into one text. -/
import Derived.Test.YtnenhckongccgaaGreatDoorQEY
import Derived.Test.YtnenhckongccgaaGreatDoorQEZ

/- The law FnExactBenchLine. -/
namespace Go.Proofs.YtnenhckongccgaaGreatDoor
set_option linter.unusedVariables false
set_option linter.unusedSimpArgs false
set_option maxRecDepth 20000
open Go.RowKit
attribute [local irreducible] runA runX AW
def wsTNE : WsT := (70, ([0], false)) :: (26, ([0], false)) :: (10, ([], true)) :: wsT
def wsZNE : List (Nat × Nat) := [(24, 4), (28, 4), (72, 4), (999999, 0)]
theorem gq_LNE {H G : Prop} (k : H) (h : Hid H → G := by (intro hh; repeat1' (first | (first | ((first | refine r_none ?_ | refine r_gt (by rfl) (by rfl) zDD (by rfl) ?_ | refine r_gf (by rfl) (by rfl) zDD (by rfl) ?_); (first | (first | refine r_seq (by rfl) (by rfl) (by rfl) ?_ | refine r_sne (by rfl) (by rfl) (by rfl) ?_ | refine r_slen (by rfl) Tryz.underlying9 (by rfl) ?_) | ((first | (refine z_op (by rfl) ?_; first | refine z_ok ?_ ?_ | refine z_ex ?_ (by first | exact zL1 | ((first | fail); exact zWW) | exact zL2 | fail | exact zL3 | fail) ?_) | ((first | refine q_callE wsTNE wsZNE (by rfl) ?_ | refine q_callVE wsTNE (by rfl) (by rfl) ?_); refine ⟨_, _, _, (by first | assumption | exact k_toBn _ _ _ _ _ (by omega) | exact k_eqBn _ _ _ _ _ (by omega) | exact k_markBn0 _ _ _ _), _, by rfl, ?_, ?_⟩)); focus (first | exact trivial | fail | exact zQZ)) | fail)) | refine r_nt (by rfl) (by rfl) zDD (by rfl) ?_ | refine r_nf (by rfl) (by rfl) zDD (by rfl) ?_ | refine r_gu (by rfl) (by rfl) (by rfl) ?_ | refine r_nil ?_) | (first | refine aw_seq ?_ | refine aw_ct (by rfl) zDD ?_ | refine aw_cf (by rfl) zDD ?_ | refine aw_block ?_ | refine aw_region T0ok cfU_ok (by rfl) ?_ | refine aw_skip ?_ | refine aw_exit ?_ | refine ra_step ?_)); exact hh.out)) : G := h ⟨k⟩
theorem ga_LNE {H G : Prop} (k : H) (h : Hid H → G := by (intro hh; (first | refine r_none ?_ | refine r_gt (by rfl) (by rfl) zDD (by rfl) ?_ | refine r_gf (by rfl) (by rfl) zDD (by rfl) ?_); refine z_op (by rfl) ?_; refine z_alV ?_ hh.out; focus (first | exact trivial | fail | exact zQZ))) : G := h ⟨k⟩
set_option maxHeartbeats 8000000 in
theorem k_lawXBL (n : Int) (l : List Gt) (f w a : Int) (hl : l.length ≤ 9223372036854775807) (hr : -9223372036854775808 ≤ n ∧ n ≤ 9223372036854775807) (s : List UInt8) : Kon Tryz.prog 7 [bG n l f w a, vS s] [] (vB true) [] [] := by
  rcases Nat.lt_or_ge 1048576 s.length with hs | hs
  · have hd0 : decide ((s.length : Int) > 1048576) = true := decide_eq_true (by omega)
    (refine kon_mk T0ok (fn := Tryz.f7) (c := Tryz.f7.body.get rfl) Tryz.func7 rfl (by rfl) (by rfl) (by rfl) ?_; intro hfit hfe)
    (repeat (first | refine gq_LNE ?_ | (refine ga_LNE ?_; intro _hq)))
    (refine rtA ?_; try rfl)
  have hd0 : decide ((s.length : Int) > 1048576) = false := decide_eq_false (by omega)
  have hS := k_szBn n l f w a 1048576 ⟨hl, by omega, by omega⟩
  rcases Int.lt_or_le (1048576 - (l.length : Int)) 0 with h0 | h0
  · rw [if_pos h0] at hS
    (refine kon_mk T0ok (fn := Tryz.f7) (c := Tryz.f7.body.get rfl) Tryz.func7 rfl (by rfl) (by rfl) (by rfl) ?_; intro hfit hfe)
    (repeat (first | refine gq_LNE ?_ | (refine ga_LNE ?_; intro _hq)))
    (refine rtA ?_; try rfl)
  rw [if_neg (by omega)] at hS
  have hl2 : l.length ≤ 1048576 := by omega
  have hd : decide (1048576 - (l.length : Int) < 0) = false := decide_eq_false (by omega)
  have hd2 : decide (1 + 4 * (l.length : Int) < 0) = false := decide_eq_false (by omega)
  have hE0 := k_eqBn n l f w a (by omega)
  have hT := k_toBn n l f w a (by omega)
  have hMk := k_markBn n l l.length f w a 1 (by omega)
  cases hb : bok n l f w a with
  | false =>
    have hI := k_blI0 n l f w a s (by omega) hr hb
    have hSp := k_blS0 n l f w a s (by omega) hr hb
    have hE := k_eqBn 0 [] 0 0 0 (by simp)
    have hH := k_heldBn 0 [] 0 0 0 1 (by simp) (fun j hj => by simp at hj)
    (refine kon_mk T0ok (fn := Tryz.f7) (c := Tryz.f7.body.get rfl) Tryz.func7 rfl (by rfl) (by rfl) (by rfl) ?_; intro hfit hfe)
    (repeat (first | refine gq_LNE ?_ | (refine ga_LNE ?_; intro _hq)))
    (refine aw_draw mixed T0ok cfU_ok [(800, [2, 3])] (by rfl) (by kernel_rfl) ?_)
    (repeat (first | refine gq_LNE ?_ | (refine ga_LNE ?_; intro _hq)))
    (refine rtA ?_; try rfl)
  | true =>
    obtain ⟨A, rfl⟩ : ∃ A : Nat, a = (A : Int) := ⟨a.toNat, by have := (bok_t hb).2.2.1; omega⟩
    rcases hR : lnF n f l w A s with ⟨⟨l', w', A'⟩, ans⟩
    have hI := kn_blI hb (by omega) hR
    have hSp := kn_lineS hb (by omega) hR
    have hb' := lnF_okB hb s
    rw [hR] at hb'
    dsimp only at hb'
    have hl' := (cokB_t (bok_t hb').1).2.1
    have hE := k_eqBn n l' f w' A' (by omega)
    have hH : Kon Tryz.prog 28 [.g (.agg [.v (.int .i64 n), .ro (Cel.sz Gt) (mkG 1 l' l'.length).length (cV (mkG 1 l' l'.length)), .v (.int .i64 f), .v (.int .i64 w'), .v (.int .i64 (A' : Int))]), vI 1] [] (vI (1 + 4 * ((mkG 1 l' l'.length).length : Int))) [] [] := k_heldBn n (mkG 1 l' l'.length) f w' A' 1 (by rw [mkG_len]; omega) (fun j hj => mkG_at 1 l' l'.length j (by rw [mkG_len] at hj; exact hj) (Nat.le_refl _))
    rw [mkG_len] at hH
    have hMk' := k_markBn n l' l'.length f w' A' 1 (by omega)
    have hml := mkG_len 1 l' l'.length
    generalize mkG 1 l' l'.length = X' at *
    have hd3 : decide (1 + 4 * (l'.length : Int) < 0) = false := decide_eq_false (by omega)
    have hmm : (!(ans == ans)) = false := by simp
    have hq : ((1 + 4 * (l'.length : Int)) != 1 + 4 * (l'.length : Int)) = false := by simp
    clear hR hb hb'
    (refine kon_mk T0ok (fn := Tryz.f7) (c := Tryz.f7.body.get rfl) Tryz.func7 rfl (by rfl) (by rfl) (by rfl) ?_; intro hfit hfe)
    (repeat (first | refine gq_LNE ?_ | (refine ga_LNE ?_; intro _hq)))
    (refine aw_draw mixed T0ok cfU_ok [(800, [2, 3])] (by rfl) (by kernel_rfl) ?_)
    (repeat (first | refine gq_LNE ?_ | (refine ga_LNE ?_; intro _hq)))
    (refine rtA ?_; try rfl)
end Go.Proofs.YtnenhckongccgaaGreatDoor
