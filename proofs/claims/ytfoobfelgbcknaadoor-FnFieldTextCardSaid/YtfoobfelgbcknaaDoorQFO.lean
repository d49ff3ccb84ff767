/- FTH: laid into one text. -/
import Derived.Test.YtfoobfelgbcknaaDoorQFJ
import Derived.Test.YtfoobfelgbcknaaDoorQFL

namespace Go.Proofs.YtfoobfelgbcknaaDoor
set_option linter.unusedVariables false
set_option linter.unusedSimpArgs false
set_option maxRecDepth 20000
open Go.RowKit
attribute [local irreducible] runA runX AW
theorem k_odd0 (l : List UInt8) (c n : Int) (h : n ≤ 0) : Kon Tryd.prog 40 [p0, vI n] [rdE l c] (vB false) [] [rdE l c] := by
  have hd : decide (n > 0) = false := decide_eq_false (by omega)
  (refine kM Tryd.func40 rfl ?_; intro hfit hfe)
  (repeat (first | (first | ((first | refine r_none ?_ | refine r_gt (by rfl) (by rfl) zDD (by rfl) ?_ | refine r_gf (by rfl) (by rfl) zDD (by rfl) ?_); (first | fail | ((first | (refine z_op (by rfl) ?_; first | refine z_ok ?_ ?_ | refine z_ex ?_ (by first | exact zL1 | ((first | refine mk_c Bool rfl rfl rfl ?_); exact zWW) | exact zL2 | exact rw_c Bool rfl | exact zL3 | fail) ?_ | refine z_al ?_ (fun _q ⟨_he, _hq⟩ => ?_)) | ((first | refine q_callE wsT wsZ (by rfl) ?_ | refine q_callVE wsT (by rfl) (by rfl) ?_); refine ⟨_, _, _, (by first | assumption | exact k_pick _ _ _ (by omega) | exact k_open _ (by omega)), _, by rfl, ?_, ?_⟩)); focus (first | exact trivial | fail | exact zQZ)) | fail)) | refine r_nt (by rfl) (by rfl) zDD (by rfl) ?_ | refine r_nf (by rfl) (by rfl) zDD (by rfl) ?_ | refine r_gu (by rfl) (by rfl) (by rfl) ?_ | refine r_nil ?_) | (first | refine aw_seq ?_ | refine aw_ct (by rfl) zDD ?_ | refine aw_cf (by rfl) zDD ?_ | refine aw_block ?_ | refine aw_region T0ok cfU_ok (by rfl) ?_ | refine aw_skip ?_ | refine aw_exit ?_ | refine ra_step ?_)))
  (refine rtA ?_; try rfl)
theorem ex_l20F0 (l : List UInt8) (c : Int) (h : 0 ≤ c ∧ c ≤ 100000 ∧ l.length ≤ 2000) : ∃ (o : Option Fld) (c' : Int), (c ≤ c' ∧ c' ≤ c + 20) ∧ (∀ f, o = some f → f.l.length ≤ 100 ∧ -10 ≤ f.s ∧ f.s ≤ 10) ∧ Kon Tryd.prog 19 [p0, vI 0] [rdE l c] (outF o).1 (outF o).2 [rdE l c'] := by
  obtain ⟨a, _, ha, hK1⟩ := ex_pick l c 4 (by omega)
  obtain ⟨b, _, hb, hK2⟩ := ex_pick l (c + 1) 2 (by omega)
  obtain ⟨m, _, hm, hK3⟩ := ex_pick l (c + 1 + 1) 9 (by omega)
  replace ha := ha (by omega)
  replace hm := hm (by omega)
  have hK4 := k_odd0 l (c + 1 + 1 + 1 + m) 0 (Int.le_refl _)
  have q1 : 4 ≤ (2 + 2 * a) * (2 + 2 * a) ∧ (2 + 2 * a) * (2 + 2 * a) ≤ 64 := by
    have h5 : a = 0 ∨ a = 1 ∨ a = 2 ∨ a = 3 := by omega
    rcases h5 with h | h | h | h <;> rw [h] <;> omega
  obtain ⟨N, hN⟩ : ∃ N, N = (List.replicate ((2 + 2 * a) * (2 + 2 * a)).toNat (Cel.no : Bool)).length := ⟨_, rfl⟩
  have hN2 : N = ((2 + 2 * a) * (2 + 2 * a)).toNat := by rw [hN, List.length_replicate]
  obtain ⟨r, hr⟩ : ∃ r, r = drawRow l m.toNat (c + 1 + 1 + 1) (List.replicate ((2 + 2 * a) * (2 + 2 * a)).toNat (Cel.no : Bool)) := ⟨_, rfl⟩
  have hrl : r.length = N := by rw [hr, drawRow_len, hN]
  refine ⟨some ⟨2 + 2 * a, r, b == 0⟩, c + 1 + 1 + 1 + m, by omega, ?_, ?_⟩
  · intro f hf
    cases hf
    dsimp only
    omega
  subst hN
  (refine kM Tryd.func19 rfl ?_; intro hfit hfe)
  (repeat (first | (first | ((first | refine r_none ?_ | refine r_gt (by rfl) (by rfl) zDD (by rfl) ?_ | refine r_gf (by rfl) (by rfl) zDD (by rfl) ?_); (first | fail | ((first | (refine z_op (by rfl) ?_; first | refine z_ok ?_ ?_ | refine z_ex ?_ (by first | exact zL1 | ((first | refine mk_c Bool rfl rfl rfl ?_); exact zWW) | exact zL2 | exact rw_c Bool rfl | exact zL3 | fail) ?_ | refine z_al ?_ (fun _q ⟨_he, _hq⟩ => ?_)) | ((first | refine q_callE wsT wsZ (by rfl) ?_ | refine q_callVE wsT (by rfl) (by rfl) ?_); refine ⟨_, _, _, (by first | assumption | exact k_pick _ _ _ (by omega) | exact k_open _ (by omega)), _, by rfl, ?_, ?_⟩)); focus (first | exact trivial | fail | exact zQZ)) | fail)) | refine r_nt (by rfl) (by rfl) zDD (by rfl) ?_ | refine r_nf (by rfl) (by rfl) zDD (by rfl) ?_ | refine r_gu (by rfl) (by rfl) (by rfl) ?_ | refine r_nil ?_) | (first | refine aw_seq ?_ | refine aw_ct (by rfl) zDD ?_ | refine aw_cf (by rfl) zDD ?_ | refine aw_block ?_ | refine aw_region T0ok cfU_ok (by rfl) ?_ | refine aw_skip ?_ | refine aw_exit ?_ | refine ra_step ?_)))
  (refine aw_rd [0, 1, 4, 5] [64] (fun g : Nat × Int × List Bool => [(6, vI g.1)]) (fun g => [(80, (0, .box [.v (.int .i64 (2 + 2 * a)), .sl 336 0 (List.replicate ((2 + 2 * a) * (2 + 2 * a)).toNat (Cel.no : Bool)).length, .v (.bool (b == 0))])), (336, (0, bRow g.2.2)), (100000, (0, rdE l g.2.1))]) (fun g => g.2.1 + g.1 = c + 1 + 1 + 1 + m ∧ c ≤ g.2.1 ∧ g.1 ≤ 9 ∧ g.2.2.length = (List.replicate ((2 + 2 * a) * (2 + 2 * a)).toNat (Cel.no : Bool)).length ∧ drawRow l g.1 g.2.1 g.2.2 = r) (fun g => g.1) (m.toNat, c + 1 + 1 + 1, List.replicate ((2 + 2 * a) * (2 + 2 * a)).toNat (Cel.no : Bool)) (by rfl) (by rfl) ?_ (by rfl) zHE zHE ?_)
  · refine ⟨?_, ?_, ?_, ?_, ?_⟩
    · dsimp only; omega
    · dsimp only; omega
    · dsimp only; omega
    · rfl
    · exact hr.symm
  rintro ⟨k, c', r'⟩ ⟨e1, e2, e3, e4, e5⟩
  dsimp only at e1 e2 e3 e4 e5 ⊢
  rcases Nat.eq_zero_or_pos k with h5 | h5
  · subst h5
    have e6 : r' = r := e5
    have e7 : c' = c + 1 + 1 + 1 + m := by omega
    subst e6 e7
    have hd : decide (((0 : Nat) : Int) > 0) = false := rfl
    (repeat (first | (first | ((first | refine r_none ?_ | refine r_gt (by rfl) (by rfl) zDD (by rfl) ?_ | refine r_gf (by rfl) (by rfl) zDD (by rfl) ?_); (first | fail | ((first | (refine z_op (by rfl) ?_; first | refine z_ok ?_ ?_ | refine z_ex ?_ (by first | exact zL1 | ((first | refine mk_c Bool rfl rfl rfl ?_); exact zWW) | exact zL2 | exact rw_c Bool rfl | exact zL3 | fail) ?_ | refine z_al ?_ (fun _q ⟨_he, _hq⟩ => ?_)) | ((first | refine q_callE wsT wsZ (by rfl) ?_ | refine q_callVE wsT (by rfl) (by rfl) ?_); refine ⟨_, _, _, (by first | assumption | exact k_pick _ _ _ (by omega) | exact k_open _ (by omega)), _, by rfl, ?_, ?_⟩)); focus (first | exact trivial | fail | exact zQZ)) | fail)) | refine r_nt (by rfl) (by rfl) zDD (by rfl) ?_ | refine r_nf (by rfl) (by rfl) zDD (by rfl) ?_ | refine r_gu (by rfl) (by rfl) (by rfl) ?_ | refine r_nil ?_) | (first | refine aw_seq ?_ | refine aw_ct (by rfl) zDD ?_ | refine aw_cf (by rfl) zDD ?_ | refine aw_block ?_ | refine aw_region T0ok cfU_ok (by rfl) ?_ | refine aw_skip ?_ | refine aw_exit ?_ | refine ra_step ?_)))
    (refine rtA ?_; try rfl)
    show _ = AV.g (.agg [.v (.int .i64 (2 + 2 * a)), .sl 0 0 r'.length, .v (.bool (b == 0))])
    rw [hrl]; rfl
  · obtain ⟨k', rfl⟩ : ∃ k', k = k' + 1 := ⟨k - 1, by omega⟩
    have hd : decide (((k' + 1 : Nat) : Int) > 0) = true := decide_eq_true (by omega)
    have p4 := pickI_lt (l := l) (c := c') (n := (((List.replicate ((2 + 2 * a) * (2 + 2 * a)).toNat (Cel.no : Bool)).length : Nat) : Int)) (by omega)
    (repeat (first | (first | ((first | refine r_none ?_ | refine r_gt (by rfl) (by rfl) zDD (by rfl) ?_ | refine r_gf (by rfl) (by rfl) zDD (by rfl) ?_); (first | fail | ((first | (refine z_op (by rfl) ?_; first | refine z_ok ?_ ?_ | refine z_ex ?_ (by first | exact zL1 | ((first | refine mk_c Bool rfl rfl rfl ?_); exact zWW) | exact zL2 | exact rw_c Bool rfl | exact zL3 | fail) ?_ | refine z_al ?_ (fun _q ⟨_he, _hq⟩ => ?_)) | ((first | refine q_callE wsT wsZ (by rfl) ?_ | refine q_callVE wsT (by rfl) (by rfl) ?_); refine ⟨_, _, _, (by first | assumption | exact k_pick _ _ _ (by omega) | exact k_open _ (by omega)), _, by rfl, ?_, ?_⟩)); focus (first | exact trivial | fail | exact zQZ)) | fail)) | refine r_nt (by rfl) (by rfl) zDD (by rfl) ?_ | refine r_nf (by rfl) (by rfl) zDD (by rfl) ?_ | refine r_gu (by rfl) (by rfl) (by rfl) ?_ | refine r_nil ?_) | (first | refine aw_seq ?_ | refine aw_ct (by rfl) zDD ?_ | refine aw_cf (by rfl) zDD ?_ | refine aw_block ?_ | refine aw_region T0ok cfU_ok (by rfl) ?_ | refine aw_skip ?_ | refine aw_exit ?_ | refine ra_step ?_)))
    (refine aw_draw mixed T0ok cfU_ok [(100000, [5, 6, 7, 8]), (336, [5, 6, 7, 8])] (by rfl) (by kernel_rfl) ?_)
    (repeat (first | (first | ((first | refine r_none ?_ | refine r_gt (by rfl) (by rfl) zDD (by rfl) ?_ | refine r_gf (by rfl) (by rfl) zDD (by rfl) ?_); (first | fail | ((first | (refine z_op (by rfl) ?_; first | refine z_ok ?_ ?_ | refine z_ex ?_ (by first | exact zL1 | ((first | refine mk_c Bool rfl rfl rfl ?_); exact zWW) | exact zL2 | exact rw_c Bool rfl | exact zL3 | fail) ?_ | refine z_al ?_ (fun _q ⟨_he, _hq⟩ => ?_)) | ((first | refine q_callE wsT wsZ (by rfl) ?_ | refine q_callVE wsT (by rfl) (by rfl) ?_); refine ⟨_, _, _, (by first | assumption | exact k_pick _ _ _ (by omega) | exact k_open _ (by omega)), _, by rfl, ?_, ?_⟩)); focus (first | exact trivial | fail | exact zQZ)) | fail)) | refine r_nt (by rfl) (by rfl) zDD (by rfl) ?_ | refine r_nf (by rfl) (by rfl) zDD (by rfl) ?_ | refine r_gu (by rfl) (by rfl) (by rfl) ?_ | refine r_nil ?_) | (first | refine aw_seq ?_ | refine aw_ct (by rfl) zDD ?_ | refine aw_cf (by rfl) zDD ?_ | refine aw_block ?_ | refine aw_region T0ok cfU_ok (by rfl) ?_ | refine aw_skip ?_ | refine aw_exit ?_ | refine ra_step ?_)))
    have e6 : drawRow l (k' + 1) c' r' = drawRow l k' (c' + 1) (r'.set (pickI l c' ((List.replicate ((2 + 2 * a) * (2 + 2 * a)).toNat (Cel.no : Bool)).length : Nat)).toNat true) := by rw [drawRow, e4]
    have hinv : c' + 1 + (k' : Int) = c + 1 + 1 + 1 + m ∧ c ≤ c' + 1 ∧ k' ≤ 9 ∧ (r'.set (pickI l c' ((List.replicate ((2 + 2 * a) * (2 + 2 * a)).toNat (Cel.no : Bool)).length : Nat)).toNat true).length = (List.replicate ((2 + 2 * a) * (2 + 2 * a)).toNat (Cel.no : Bool)).length ∧ drawRow l k' (c' + 1) (r'.set (pickI l c' ((List.replicate ((2 + 2 * a) * (2 + 2 * a)).toNat (Cel.no : Bool)).length : Nat)).toNat true) = r := ⟨by omega, by omega, by omega, by rw [List.length_set, e4], by rw [← e5, e6]⟩
    exact ⟨(k', c' + 1, r'.set (pickI l c' ((List.replicate ((2 + 2 * a) * (2 + 2 * a)).toNat (Cel.no : Bool)).length : Nat)).toNat true), hinv, ⟨by rfl, zHE, zHE⟩, (by first | omega | (dsimp only; omega))⟩
end Go.Proofs.YtfoobfelgbcknaaDoor
