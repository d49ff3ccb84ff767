/- Tables of circuits, both sides; the law FnCircuitTable. -/
import Derived.Test.YtgifhhefcmmdfaaKBM
namespace Go.Proofs.Ytgifhhefcmmdfaa
set_option linter.unusedVariables false
set_option linter.unusedSimpArgs false
set_option maxRecDepth 20000
open Go.RowKit
attribute [local irreducible] runA runX AW
def wsZT : List (Nat × Nat) := [(33, 1), (999999, 0)]
theorem gq_KBN {H G : Prop} (k : H) (h : Hid H → G := by (intro hh; (first | (first | ((first | refine r_none ?_ | refine r_gt (by rfl) (by rfl) (by first | rfl | assumption | omega | (simp only [*, Bool.not_false, Bool.not_true]; first | done | fail) | (simp [*]; first | done | fail)) (by rfl) ?_ | refine r_gf (by rfl) (by rfl) (by first | rfl | assumption | omega | (simp only [*, Bool.not_false, Bool.not_true]; first | done | fail) | (simp [*]; first | done | fail)) (by rfl) ?_); (first | fail | ((first | (refine z_op (by rfl) ?_; first | refine z_ok ?_ ?_ | refine z_ex ?_ (by first | exact ft_raw rfl rfl | ((first | refine ft_rp rfl rfl rfl ?_ | refine ft_row rfl rfl rfl ?_ | refine ft_rpF rfl rfl rfl ?_ | refine ft_rowF rfl rfl rfl ?_ | refine up_row rfl rfl ?_ | refine up_rowF rfl rfl rfl ?_ | refine ct_0 rfl ?_ | refine ct_r rfl rfl ?_ | refine ct_c rfl rfl rfl ?_ | refine cu_all rfl ?_ | refine cu_to rfl ?_ | refine cu_from rfl ?_ | refine cu_p rfl ?_ | (first | refine mk_0 Int rfl rfl ?_ | refine mk_0 Gt rfl rfl ?_)); (first | omega | (simp only [List.length_append, List.length_replicate, List.length_cons, List.length_nil, List.length_set, List.length_take, List.length_drop, true_and]; omega))) | exact up_raw rfl | exact pk_t (by first | rfl | assumption | omega | (simp only [*, Bool.not_false, Bool.not_true]; first | done | fail) | (simp [*]; first | done | fail)) rfl | exact pk_f (by first | rfl | assumption | omega | (simp only [*, Bool.not_false, Bool.not_true]; first | done | fail) | (simp [*]; first | done | fail)) rfl | exact rw_c Int rfl | exact rw_raw | exact pu_cv (fun w => rfl) (by omega) | exact pu_of (fun w => rfl) rfl | exact be_of (fun w => rfl) | exact nc_of (fun _ _ _ _ => rfl) rfl | exact bu_of (fun w => rfl) rfl | fail) ?_) | ((first | refine q_callE wsT wsZT (by rfl) ?_ | refine q_callVE wsT (by rfl) (by rfl) ?_); refine ⟨_, _, _, (by first | assumption | exact k_alive | exact k_open _ (by omega) | exact k_backwards _ (by omega)), _, by rfl, ?_, ?_⟩)); focus (first | exact trivial | fail | exact rfl | (first | omega | (simp only [List.length_append, List.length_replicate, List.length_cons, List.length_nil, List.length_set, List.length_take, List.length_drop, true_and]; omega)) | exact cvB (fun w => rfl) | ((repeat' (first | exact rfl | exact cV_len _ | exact cV_ln rfl (by omega) | exact Cel.pos | omega | exact trivial | refine And.intro ?_ ?_)); done) | (simp [*]; done) | (simp; omega))) | fail)) | refine r_nt (by rfl) (by rfl) (by first | rfl | assumption | omega | (simp only [*, Bool.not_false, Bool.not_true]; first | done | fail) | (simp [*]; first | done | fail)) (by rfl) ?_ | refine r_nf (by rfl) (by rfl) (by first | rfl | assumption | omega | (simp only [*, Bool.not_false, Bool.not_true]; first | done | fail) | (simp [*]; first | done | fail)) (by rfl) ?_ | refine r_gu (by rfl) (by rfl) (by rfl) ?_ | refine r_nil ?_) | (first | refine aw_seq ?_ | refine aw_ct (by rfl) (by first | rfl | assumption | omega | (simp only [*, Bool.not_false, Bool.not_true]; first | done | fail) | (simp [*]; first | done | fail)) ?_ | refine aw_cf (by rfl) (by first | rfl | assumption | omega | (simp only [*, Bool.not_false, Bool.not_true]; first | done | fail) | (simp [*]; first | done | fail)) ?_ | refine aw_block ?_ | refine aw_region T0ok cfU_ok (by rfl) ?_ | refine aw_skip ?_ | refine aw_exit ?_ | refine ra_step ?_)); (repeat (first | (first | ((first | refine r_none ?_ | refine r_gt (by rfl) (by rfl) (by first | rfl | assumption | omega | (simp only [*, Bool.not_false, Bool.not_true]; first | done | fail) | (simp [*]; first | done | fail)) (by rfl) ?_ | refine r_gf (by rfl) (by rfl) (by first | rfl | assumption | omega | (simp only [*, Bool.not_false, Bool.not_true]; first | done | fail) | (simp [*]; first | done | fail)) (by rfl) ?_); (first | fail | ((first | (refine z_op (by rfl) ?_; first | refine z_ok ?_ ?_ | refine z_ex ?_ (by first | exact ft_raw rfl rfl | ((first | refine ft_rp rfl rfl rfl ?_ | refine ft_row rfl rfl rfl ?_ | refine ft_rpF rfl rfl rfl ?_ | refine ft_rowF rfl rfl rfl ?_ | refine up_row rfl rfl ?_ | refine up_rowF rfl rfl rfl ?_ | refine ct_0 rfl ?_ | refine ct_r rfl rfl ?_ | refine ct_c rfl rfl rfl ?_ | refine cu_all rfl ?_ | refine cu_to rfl ?_ | refine cu_from rfl ?_ | refine cu_p rfl ?_ | (first | refine mk_0 Int rfl rfl ?_ | refine mk_0 Gt rfl rfl ?_)); (first | omega | (simp only [List.length_append, List.length_replicate, List.length_cons, List.length_nil, List.length_set, List.length_take, List.length_drop, true_and]; omega))) | exact up_raw rfl | exact pk_t (by first | rfl | assumption | omega | (simp only [*, Bool.not_false, Bool.not_true]; first | done | fail) | (simp [*]; first | done | fail)) rfl | exact pk_f (by first | rfl | assumption | omega | (simp only [*, Bool.not_false, Bool.not_true]; first | done | fail) | (simp [*]; first | done | fail)) rfl | exact rw_c Int rfl | exact rw_raw | exact pu_cv (fun w => rfl) (by omega) | exact pu_of (fun w => rfl) rfl | exact be_of (fun w => rfl) | exact nc_of (fun _ _ _ _ => rfl) rfl | exact bu_of (fun w => rfl) rfl | fail) ?_) | ((first | refine q_callE wsT wsZT (by rfl) ?_ | refine q_callVE wsT (by rfl) (by rfl) ?_); refine ⟨_, _, _, (by first | assumption | exact k_alive | exact k_open _ (by omega) | exact k_backwards _ (by omega)), _, by rfl, ?_, ?_⟩)); focus (first | exact trivial | fail | exact rfl | (first | omega | (simp only [List.length_append, List.length_replicate, List.length_cons, List.length_nil, List.length_set, List.length_take, List.length_drop, true_and]; omega)) | exact cvB (fun w => rfl) | ((repeat' (first | exact rfl | exact cV_len _ | exact cV_ln rfl (by omega) | exact Cel.pos | omega | exact trivial | refine And.intro ?_ ?_)); done) | (simp [*]; done) | (simp; omega))) | fail)) | refine r_nt (by rfl) (by rfl) (by first | rfl | assumption | omega | (simp only [*, Bool.not_false, Bool.not_true]; first | done | fail) | (simp [*]; first | done | fail)) (by rfl) ?_ | refine r_nf (by rfl) (by rfl) (by first | rfl | assumption | omega | (simp only [*, Bool.not_false, Bool.not_true]; first | done | fail) | (simp [*]; first | done | fail)) (by rfl) ?_ | refine r_gu (by rfl) (by rfl) (by rfl) ?_ | refine r_nil ?_) | (first | refine aw_seq ?_ | refine aw_ct (by rfl) (by first | rfl | assumption | omega | (simp only [*, Bool.not_false, Bool.not_true]; first | done | fail) | (simp [*]; first | done | fail)) ?_ | refine aw_cf (by rfl) (by first | rfl | assumption | omega | (simp only [*, Bool.not_false, Bool.not_true]; first | done | fail) | (simp [*]; first | done | fail)) ?_ | refine aw_block ?_ | refine aw_region T0ok cfU_ok (by rfl) ?_ | refine aw_skip ?_ | refine aw_exit ?_ | refine ra_step ?_))); exact hh.out)) : G := h ⟨k⟩
theorem ga_KBN {H G : Prop} (k : H) (h : Hid H → G := by (intro hh; (first | refine r_none ?_ | refine r_gt (by rfl) (by rfl) (by first | rfl | assumption | omega | (simp only [*, Bool.not_false, Bool.not_true]; first | done | fail) | (simp [*]; first | done | fail)) (by rfl) ?_ | refine r_gf (by rfl) (by rfl) (by first | rfl | assumption | omega | (simp only [*, Bool.not_false, Bool.not_true]; first | done | fail) | (simp [*]; first | done | fail)) (by rfl) ?_); refine z_op (by rfl) ?_; refine z_al ?_ hh.out; focus (first | exact trivial | fail | exact rfl | (first | omega | (simp only [List.length_append, List.length_replicate, List.length_cons, List.length_nil, List.length_set, List.length_take, List.length_drop, true_and]; omega)) | exact cvB (fun w => rfl) | ((repeat' (first | exact rfl | exact cV_len _ | exact cV_ln rfl (by omega) | exact Cel.pos | omega | exact trivial | refine And.intro ?_ ?_)); done) | (simp [*]; done) | (simp; omega)))) : G := h ⟨k⟩
theorem gs_KBN {H G : Prop} (k : H) (h : Hid H → G := by (intro hh; (first | ((first | refine r_none ?_ | refine r_gt (by rfl) (by rfl) (by first | rfl | assumption | omega | (simp only [*, Bool.not_false, Bool.not_true]; first | done | fail) | (simp [*]; first | done | fail)) (by rfl) ?_ | refine r_gf (by rfl) (by rfl) (by first | rfl | assumption | omega | (simp only [*, Bool.not_false, Bool.not_true]; first | done | fail) | (simp [*]; first | done | fail)) (by rfl) ?_); (first | fail | ((first | (refine z_op (by rfl) ?_; first | refine z_ok ?_ ?_ | refine z_ex ?_ (by first | exact ft_raw rfl rfl | ((first | refine ft_rp rfl rfl rfl ?_ | refine ft_row rfl rfl rfl ?_ | refine ft_rpF rfl rfl rfl ?_ | refine ft_rowF rfl rfl rfl ?_ | refine up_row rfl rfl ?_ | refine up_rowF rfl rfl rfl ?_ | refine ct_0 rfl ?_ | refine ct_r rfl rfl ?_ | refine ct_c rfl rfl rfl ?_ | refine cu_all rfl ?_ | refine cu_to rfl ?_ | refine cu_from rfl ?_ | refine cu_p rfl ?_ | (first | refine mk_0 Int rfl rfl ?_ | refine mk_0 Gt rfl rfl ?_)); (first | omega | (simp only [List.length_append, List.length_replicate, List.length_cons, List.length_nil, List.length_set, List.length_take, List.length_drop, true_and]; omega))) | exact up_raw rfl | exact pk_t (by first | rfl | assumption | omega | (simp only [*, Bool.not_false, Bool.not_true]; first | done | fail) | (simp [*]; first | done | fail)) rfl | exact pk_f (by first | rfl | assumption | omega | (simp only [*, Bool.not_false, Bool.not_true]; first | done | fail) | (simp [*]; first | done | fail)) rfl | exact rw_c Int rfl | exact rw_raw | exact pu_cv (fun w => rfl) (by omega) | exact pu_of (fun w => rfl) rfl | exact be_of (fun w => rfl) | exact nc_of (fun _ _ _ _ => rfl) rfl | exact bu_of (fun w => rfl) rfl | fail) ?_) | ((first | refine q_callE wsT wsZT (by rfl) ?_ | refine q_callVE wsT (by rfl) (by rfl) ?_); refine ⟨_, _, _, (by first | assumption | exact k_alive | exact k_open _ (by omega) | exact k_backwards _ (by omega)), _, by rfl, ?_, ?_⟩)); focus (first | exact trivial | fail | exact rfl | (first | omega | (simp only [List.length_append, List.length_replicate, List.length_cons, List.length_nil, List.length_set, List.length_take, List.length_drop, true_and]; omega)) | exact cvB (fun w => rfl) | ((repeat' (first | exact rfl | exact cV_len _ | exact cV_ln rfl (by omega) | exact Cel.pos | omega | exact trivial | refine And.intro ?_ ?_)); done) | (simp [*]; done) | (simp; omega))) | fail)) | refine r_nt (by rfl) (by rfl) (by first | rfl | assumption | omega | (simp only [*, Bool.not_false, Bool.not_true]; first | done | fail) | (simp [*]; first | done | fail)) (by rfl) ?_ | refine r_nf (by rfl) (by rfl) (by first | rfl | assumption | omega | (simp only [*, Bool.not_false, Bool.not_true]; first | done | fail) | (simp [*]; first | done | fail)) (by rfl) ?_ | refine r_gu (by rfl) (by rfl) (by rfl) ?_ | refine r_nil ?_); (repeat (first | ((first | refine r_none ?_ | refine r_gt (by rfl) (by rfl) (by first | rfl | assumption | omega | (simp only [*, Bool.not_false, Bool.not_true]; first | done | fail) | (simp [*]; first | done | fail)) (by rfl) ?_ | refine r_gf (by rfl) (by rfl) (by first | rfl | assumption | omega | (simp only [*, Bool.not_false, Bool.not_true]; first | done | fail) | (simp [*]; first | done | fail)) (by rfl) ?_); (first | fail | ((first | (refine z_op (by rfl) ?_; first | refine z_ok ?_ ?_ | refine z_ex ?_ (by first | exact ft_raw rfl rfl | ((first | refine ft_rp rfl rfl rfl ?_ | refine ft_row rfl rfl rfl ?_ | refine ft_rpF rfl rfl rfl ?_ | refine ft_rowF rfl rfl rfl ?_ | refine up_row rfl rfl ?_ | refine up_rowF rfl rfl rfl ?_ | refine ct_0 rfl ?_ | refine ct_r rfl rfl ?_ | refine ct_c rfl rfl rfl ?_ | refine cu_all rfl ?_ | refine cu_to rfl ?_ | refine cu_from rfl ?_ | refine cu_p rfl ?_ | (first | refine mk_0 Int rfl rfl ?_ | refine mk_0 Gt rfl rfl ?_)); (first | omega | (simp only [List.length_append, List.length_replicate, List.length_cons, List.length_nil, List.length_set, List.length_take, List.length_drop, true_and]; omega))) | exact up_raw rfl | exact pk_t (by first | rfl | assumption | omega | (simp only [*, Bool.not_false, Bool.not_true]; first | done | fail) | (simp [*]; first | done | fail)) rfl | exact pk_f (by first | rfl | assumption | omega | (simp only [*, Bool.not_false, Bool.not_true]; first | done | fail) | (simp [*]; first | done | fail)) rfl | exact rw_c Int rfl | exact rw_raw | exact pu_cv (fun w => rfl) (by omega) | exact pu_of (fun w => rfl) rfl | exact be_of (fun w => rfl) | exact nc_of (fun _ _ _ _ => rfl) rfl | exact bu_of (fun w => rfl) rfl | fail) ?_) | ((first | refine q_callE wsT wsZT (by rfl) ?_ | refine q_callVE wsT (by rfl) (by rfl) ?_); refine ⟨_, _, _, (by first | assumption | exact k_alive | exact k_open _ (by omega) | exact k_backwards _ (by omega)), _, by rfl, ?_, ?_⟩)); focus (first | exact trivial | fail | exact rfl | (first | omega | (simp only [List.length_append, List.length_replicate, List.length_cons, List.length_nil, List.length_set, List.length_take, List.length_drop, true_and]; omega)) | exact cvB (fun w => rfl) | ((repeat' (first | exact rfl | exact cV_len _ | exact cV_ln rfl (by omega) | exact Cel.pos | omega | exact trivial | refine And.intro ?_ ?_)); done) | (simp [*]; done) | (simp; omega))) | fail)) | refine r_nt (by rfl) (by rfl) (by first | rfl | assumption | omega | (simp only [*, Bool.not_false, Bool.not_true]; first | done | fail) | (simp [*]; first | done | fail)) (by rfl) ?_ | refine r_nf (by rfl) (by rfl) (by first | rfl | assumption | omega | (simp only [*, Bool.not_false, Bool.not_true]; first | done | fail) | (simp [*]; first | done | fail)) (by rfl) ?_ | refine r_gu (by rfl) (by rfl) (by rfl) ?_ | refine r_nil ?_)); exact hh.out)) : G := h ⟨k⟩
theorem gc_KBN {H G : Prop} (k : H) (h : Hid H → G := by (intro hh; (first | refine aw_seq ?_ | refine aw_ct (by rfl) (by first | rfl | assumption | omega | (simp only [*, Bool.not_false, Bool.not_true]; first | done | fail) | (simp [*]; first | done | fail)) ?_ | refine aw_cf (by rfl) (by first | rfl | assumption | omega | (simp only [*, Bool.not_false, Bool.not_true]; first | done | fail) | (simp [*]; first | done | fail)) ?_ | refine aw_block ?_ | refine aw_region T0ok cfU_ok (by rfl) ?_ | refine aw_skip ?_ | refine aw_exit ?_ | refine ra_step ?_); (repeat (first | refine aw_seq ?_ | refine aw_ct (by rfl) (by first | rfl | assumption | omega | (simp only [*, Bool.not_false, Bool.not_true]; first | done | fail) | (simp [*]; first | done | fail)) ?_ | refine aw_cf (by rfl) (by first | rfl | assumption | omega | (simp only [*, Bool.not_false, Bool.not_true]; first | done | fail) | (simp [*]; first | done | fail)) ?_ | refine aw_block ?_ | refine aw_region T0ok cfU_ok (by rfl) ?_ | refine aw_skip ?_ | refine aw_exit ?_ | refine ra_step ?_)); exact hh.out)) : G := h ⟨k⟩
theorem gd_KBN {H G : Prop} (k : H) (h : Hid H → G := by (intro hh; (refine aw_draw mixed T0ok cfU_ok [] (by rfl) (by kernel_rfl) ?_); exact hh.out)) : G := h ⟨k⟩
theorem k_ct (n : Int) (l : List Gt) (hc : cokB n l = true) (N : Nat) (hN : (1 * 2 ^ n.toNat : Int) = (N : Int)) : Kon Try.prog 32 [vI n, roA l] [] (slA 0 0 (tabN l N)) [iRow (tabN l N)] [] := by
  obtain ⟨hn, hl, ha⟩ := cokB_t hc
  have hC := k_cv n l (by omega)
  rw [hc] at hC
  have hT := k_tab n l hc N hN
  (refine kon_mk T0ok (fn := Try.f32) (c := Try.f32.body.get rfl) Try.func32 rfl (by rfl) (by rfl) (by rfl) ?_; intro hfit hfe)
  (repeat (first | refine gq_KBN ?_ | (refine ga_KBN ?_; intro _q ⟨_he, _hq⟩)))
  ((try refine aw_ret ?_); refine ret_auto2 (by rfl) (by rfl) (by rfl) (by repeat (first | exact trivial | refine ⟨by first | rfl | omega, ?_⟩)) ?_ (by repeat (first | exact trivial | refine ⟨by rfl, by rfl, ?_⟩)) (by repeat (first | exact trivial | refine ⟨by rfl, by rfl, ?_⟩)); try rfl)
theorem k_ct0 (n : Int) (l : List Gt) (h : l.length ≤ 1000) (hc : cokB n l = false) : Kon Try.prog 32 [vI n, roA l] [] vN [] [] := by
  have hC := k_cv n l (by omega)
  rw [hc] at hC
  (refine kon_mk T0ok (fn := Try.f32) (c := Try.f32.body.get rfl) Try.func32 rfl (by rfl) (by rfl) (by rfl) ?_; intro hfit hfe)
  (repeat (first | refine gq_KBN ?_ | (refine ga_KBN ?_; intro _q ⟨_he, _hq⟩)))
  ((try refine aw_ret ?_); refine ret_auto2 (by rfl) (by rfl) (by rfl) (by repeat (first | exact trivial | refine ⟨by first | rfl | omega, ?_⟩)) ?_ (by repeat (first | exact trivial | refine ⟨by rfl, by rfl, ?_⟩)) (by repeat (first | exact trivial | refine ⟨by rfl, by rfl, ?_⟩)); try rfl)
set_option maxHeartbeats 1000000 in
theorem k_ctS1 (l : List Gt) (h : cokB 1 l = true) (N : Nat) (hN : (N : Int) = 2) : Kon Try.prog 34 [vI 1, roA l] [] (slA 0 0 (tabN l N)) [iRow (tabN l N)] [] := by
  obtain ⟨hn, hl, ha⟩ := cokB_t h
  have hC := k_cvS 1 l (by omega) (by omega)
  rw [h] at hC
  (refine kon_mk T0ok (fn := Try.f34) (c := Try.f34.body.get rfl) Try.func34 rfl (by rfl) (by rfl) (by rfl) ?_; intro hfit hfe)
  (repeat (first | refine gq_KBN ?_ | (refine ga_KBN ?_; intro _q ⟨_he, _hq⟩)))
  (refine aw_rd [0, 1] [] (fun i : Nat => [(5, .g (.one (.sl 112 i i))), (6, vI i)]) (fun i => [(112, (i, iRow (tabN l i)))]) (fun i => i ≤ N) (fun i => N - i) 0 (by rfl) (by rfl) ?_ (by rfl) (by repeat (first | exact trivial | refine ⟨by rfl, ?_⟩ | refine ⟨vI_of (by rfl) (by omega), ?_⟩)) (by repeat (first | exact trivial | refine ⟨by rfl, ?_⟩ | refine ⟨vI_of (by rfl) (by omega), ?_⟩)) ?_)
  · exact Nat.zero_le _
  rintro i hi
  have hil := tabN_len l i
  rcases Nat.lt_or_ge i N with h5 | h5
  · have hd : decide ((i : Int) < 2) = true := decide_eq_true (by omega)
    have hR := k_l2Run 1 l (i : Int) ha (by omega) (wv_of hn ⟨by omega, by rw [show (2 : Int) ^ (1 : Int).toNat = 2 from rfl]; omega⟩)
    (repeat (first | refine gq_KBN ?_ | (refine ga_KBN ?_; intro _q ⟨_he, _hq⟩)))
    exact ⟨i + 1, h5, ⟨by rfl, ⟨Eq.trans (b := some (.g (.one (.sl 112 (i + 1) (tabN l (i + 1)).length)))) (by rfl) (by rw [tabN_len]), (by repeat (first | exact trivial | refine ⟨by rfl, ?_⟩ | refine ⟨vI_of (by rfl) (by omega), ?_⟩))⟩, (by repeat (first | exact trivial | refine ⟨by rfl, ?_⟩ | refine ⟨vI_of (by rfl) (by omega), ?_⟩))⟩, (by first | omega | (dsimp only; omega))⟩
  · obtain rfl : i = N := by omega
    have hd : decide ((i : Int) < 2) = false := decide_eq_false (by omega)
    (repeat (first | refine gq_KBN ?_ | (refine ga_KBN ?_; intro _q ⟨_he, _hq⟩)))
    ((try refine aw_ret ?_); refine ret_auto2 (by rfl) (by rfl) (by rfl) (by repeat (first | exact trivial | refine ⟨by first | rfl | omega, ?_⟩)) ?_ (by repeat (first | exact trivial | refine ⟨by rfl, by rfl, ?_⟩)) (by repeat (first | exact trivial | refine ⟨by rfl, by rfl, ?_⟩)); try rfl)
    exact congrArg (fun m => AV.g (.one (.sl 0 0 m))) hil.symm
set_option maxHeartbeats 1000000 in
theorem k_ctS2 (l : List Gt) (h : cokB 2 l = true) (N : Nat) (hN : (N : Int) = 4) : Kon Try.prog 34 [vI 2, roA l] [] (slA 0 0 (tabN l N)) [iRow (tabN l N)] [] := by
  obtain ⟨hn, hl, ha⟩ := cokB_t h
  have hC := k_cvS 2 l (by omega) (by omega)
  rw [h] at hC
  (refine kon_mk T0ok (fn := Try.f34) (c := Try.f34.body.get rfl) Try.func34 rfl (by rfl) (by rfl) (by rfl) ?_; intro hfit hfe)
  (repeat (first | refine gq_KBN ?_ | (refine ga_KBN ?_; intro _q ⟨_he, _hq⟩)))
  (refine aw_rd [0, 1] [] (fun i : Nat => [(5, .g (.one (.sl 112 i i))), (6, vI i)]) (fun i => [(112, (i, iRow (tabN l i)))]) (fun i => i ≤ N) (fun i => N - i) 0 (by rfl) (by rfl) ?_ (by rfl) (by repeat (first | exact trivial | refine ⟨by rfl, ?_⟩ | refine ⟨vI_of (by rfl) (by omega), ?_⟩)) (by repeat (first | exact trivial | refine ⟨by rfl, ?_⟩ | refine ⟨vI_of (by rfl) (by omega), ?_⟩)) ?_)
  · exact Nat.zero_le _
  rintro i hi
  have hil := tabN_len l i
  rcases Nat.lt_or_ge i N with h5 | h5
  · have hd : decide ((i : Int) < 4) = true := decide_eq_true (by omega)
    have hR := k_l2Run 2 l (i : Int) ha (by omega) (wv_of hn ⟨by omega, by rw [show (2 : Int) ^ (2 : Int).toNat = 4 from rfl]; omega⟩)
    (repeat (first | refine gq_KBN ?_ | (refine ga_KBN ?_; intro _q ⟨_he, _hq⟩)))
    exact ⟨i + 1, h5, ⟨by rfl, ⟨Eq.trans (b := some (.g (.one (.sl 112 (i + 1) (tabN l (i + 1)).length)))) (by rfl) (by rw [tabN_len]), (by repeat (first | exact trivial | refine ⟨by rfl, ?_⟩ | refine ⟨vI_of (by rfl) (by omega), ?_⟩))⟩, (by repeat (first | exact trivial | refine ⟨by rfl, ?_⟩ | refine ⟨vI_of (by rfl) (by omega), ?_⟩))⟩, (by first | omega | (dsimp only; omega))⟩
  · obtain rfl : i = N := by omega
    have hd : decide ((i : Int) < 4) = false := decide_eq_false (by omega)
    (repeat (first | refine gq_KBN ?_ | (refine ga_KBN ?_; intro _q ⟨_he, _hq⟩)))
    ((try refine aw_ret ?_); refine ret_auto2 (by rfl) (by rfl) (by rfl) (by repeat (first | exact trivial | refine ⟨by first | rfl | omega, ?_⟩)) ?_ (by repeat (first | exact trivial | refine ⟨by rfl, by rfl, ?_⟩)) (by repeat (first | exact trivial | refine ⟨by rfl, by rfl, ?_⟩)); try rfl)
    exact congrArg (fun m => AV.g (.one (.sl 0 0 m))) hil.symm
set_option maxHeartbeats 1000000 in
theorem k_ctS3 (l : List Gt) (h : cokB 3 l = true) (N : Nat) (hN : (N : Int) = 8) : Kon Try.prog 34 [vI 3, roA l] [] (slA 0 0 (tabN l N)) [iRow (tabN l N)] [] := by
  obtain ⟨hn, hl, ha⟩ := cokB_t h
  have hC := k_cvS 3 l (by omega) (by omega)
  rw [h] at hC
  (refine kon_mk T0ok (fn := Try.f34) (c := Try.f34.body.get rfl) Try.func34 rfl (by rfl) (by rfl) (by rfl) ?_; intro hfit hfe)
  (repeat (first | refine gq_KBN ?_ | (refine ga_KBN ?_; intro _q ⟨_he, _hq⟩)))
  (refine aw_rd [0, 1] [] (fun i : Nat => [(5, .g (.one (.sl 112 i i))), (6, vI i)]) (fun i => [(112, (i, iRow (tabN l i)))]) (fun i => i ≤ N) (fun i => N - i) 0 (by rfl) (by rfl) ?_ (by rfl) (by repeat (first | exact trivial | refine ⟨by rfl, ?_⟩ | refine ⟨vI_of (by rfl) (by omega), ?_⟩)) (by repeat (first | exact trivial | refine ⟨by rfl, ?_⟩ | refine ⟨vI_of (by rfl) (by omega), ?_⟩)) ?_)
  · exact Nat.zero_le _
  rintro i hi
  have hil := tabN_len l i
  rcases Nat.lt_or_ge i N with h5 | h5
  · have hd : decide ((i : Int) < 8) = true := decide_eq_true (by omega)
    have hR := k_l2Run 3 l (i : Int) ha (by omega) (wv_of hn ⟨by omega, by rw [show (2 : Int) ^ (3 : Int).toNat = 8 from rfl]; omega⟩)
    (repeat (first | refine gq_KBN ?_ | (refine ga_KBN ?_; intro _q ⟨_he, _hq⟩)))
    exact ⟨i + 1, h5, ⟨by rfl, ⟨Eq.trans (b := some (.g (.one (.sl 112 (i + 1) (tabN l (i + 1)).length)))) (by rfl) (by rw [tabN_len]), (by repeat (first | exact trivial | refine ⟨by rfl, ?_⟩ | refine ⟨vI_of (by rfl) (by omega), ?_⟩))⟩, (by repeat (first | exact trivial | refine ⟨by rfl, ?_⟩ | refine ⟨vI_of (by rfl) (by omega), ?_⟩))⟩, (by first | omega | (dsimp only; omega))⟩
  · obtain rfl : i = N := by omega
    have hd : decide ((i : Int) < 8) = false := decide_eq_false (by omega)
    (repeat (first | refine gq_KBN ?_ | (refine ga_KBN ?_; intro _q ⟨_he, _hq⟩)))
    ((try refine aw_ret ?_); refine ret_auto2 (by rfl) (by rfl) (by rfl) (by repeat (first | exact trivial | refine ⟨by first | rfl | omega, ?_⟩)) ?_ (by repeat (first | exact trivial | refine ⟨by rfl, by rfl, ?_⟩)) (by repeat (first | exact trivial | refine ⟨by rfl, by rfl, ?_⟩)); try rfl)
    exact congrArg (fun m => AV.g (.one (.sl 0 0 m))) hil.symm
set_option maxHeartbeats 1000000 in
theorem k_ctS4 (l : List Gt) (h : cokB 4 l = true) (N : Nat) (hN : (N : Int) = 16) : Kon Try.prog 34 [vI 4, roA l] [] (slA 0 0 (tabN l N)) [iRow (tabN l N)] [] := by
  obtain ⟨hn, hl, ha⟩ := cokB_t h
  have hC := k_cvS 4 l (by omega) (by omega)
  rw [h] at hC
  (refine kon_mk T0ok (fn := Try.f34) (c := Try.f34.body.get rfl) Try.func34 rfl (by rfl) (by rfl) (by rfl) ?_; intro hfit hfe)
  (repeat (first | refine gq_KBN ?_ | (refine ga_KBN ?_; intro _q ⟨_he, _hq⟩)))
  (refine aw_rd [0, 1] [] (fun i : Nat => [(5, .g (.one (.sl 112 i i))), (6, vI i)]) (fun i => [(112, (i, iRow (tabN l i)))]) (fun i => i ≤ N) (fun i => N - i) 0 (by rfl) (by rfl) ?_ (by rfl) (by repeat (first | exact trivial | refine ⟨by rfl, ?_⟩ | refine ⟨vI_of (by rfl) (by omega), ?_⟩)) (by repeat (first | exact trivial | refine ⟨by rfl, ?_⟩ | refine ⟨vI_of (by rfl) (by omega), ?_⟩)) ?_)
  · exact Nat.zero_le _
  rintro i hi
  have hil := tabN_len l i
  rcases Nat.lt_or_ge i N with h5 | h5
  · have hd : decide ((i : Int) < 16) = true := decide_eq_true (by omega)
    have hR := k_l2Run 4 l (i : Int) ha (by omega) (wv_of hn ⟨by omega, by rw [show (2 : Int) ^ (4 : Int).toNat = 16 from rfl]; omega⟩)
    (repeat (first | refine gq_KBN ?_ | (refine ga_KBN ?_; intro _q ⟨_he, _hq⟩)))
    exact ⟨i + 1, h5, ⟨by rfl, ⟨Eq.trans (b := some (.g (.one (.sl 112 (i + 1) (tabN l (i + 1)).length)))) (by rfl) (by rw [tabN_len]), (by repeat (first | exact trivial | refine ⟨by rfl, ?_⟩ | refine ⟨vI_of (by rfl) (by omega), ?_⟩))⟩, (by repeat (first | exact trivial | refine ⟨by rfl, ?_⟩ | refine ⟨vI_of (by rfl) (by omega), ?_⟩))⟩, (by first | omega | (dsimp only; omega))⟩
  · obtain rfl : i = N := by omega
    have hd : decide ((i : Int) < 16) = false := decide_eq_false (by omega)
    (repeat (first | refine gq_KBN ?_ | (refine ga_KBN ?_; intro _q ⟨_he, _hq⟩)))
    ((try refine aw_ret ?_); refine ret_auto2 (by rfl) (by rfl) (by rfl) (by repeat (first | exact trivial | refine ⟨by first | rfl | omega, ?_⟩)) ?_ (by repeat (first | exact trivial | refine ⟨by rfl, by rfl, ?_⟩)) (by repeat (first | exact trivial | refine ⟨by rfl, by rfl, ?_⟩)); try rfl)
    exact congrArg (fun m => AV.g (.one (.sl 0 0 m))) hil.symm
set_option maxHeartbeats 1000000 in
theorem k_ctS5 (l : List Gt) (h : cokB 5 l = true) (N : Nat) (hN : (N : Int) = 32) : Kon Try.prog 34 [vI 5, roA l] [] (slA 0 0 (tabN l N)) [iRow (tabN l N)] [] := by
  obtain ⟨hn, hl, ha⟩ := cokB_t h
  have hC := k_cvS 5 l (by omega) (by omega)
  rw [h] at hC
  (refine kon_mk T0ok (fn := Try.f34) (c := Try.f34.body.get rfl) Try.func34 rfl (by rfl) (by rfl) (by rfl) ?_; intro hfit hfe)
  (repeat (first | refine gq_KBN ?_ | (refine ga_KBN ?_; intro _q ⟨_he, _hq⟩)))
  (refine aw_rd [0, 1] [] (fun i : Nat => [(5, .g (.one (.sl 112 i i))), (6, vI i)]) (fun i => [(112, (i, iRow (tabN l i)))]) (fun i => i ≤ N) (fun i => N - i) 0 (by rfl) (by rfl) ?_ (by rfl) (by repeat (first | exact trivial | refine ⟨by rfl, ?_⟩ | refine ⟨vI_of (by rfl) (by omega), ?_⟩)) (by repeat (first | exact trivial | refine ⟨by rfl, ?_⟩ | refine ⟨vI_of (by rfl) (by omega), ?_⟩)) ?_)
  · exact Nat.zero_le _
  rintro i hi
  have hil := tabN_len l i
  rcases Nat.lt_or_ge i N with h5 | h5
  · have hd : decide ((i : Int) < 32) = true := decide_eq_true (by omega)
    have hR := k_l2Run 5 l (i : Int) ha (by omega) (wv_of hn ⟨by omega, by rw [show (2 : Int) ^ (5 : Int).toNat = 32 from rfl]; omega⟩)
    (repeat (first | refine gq_KBN ?_ | (refine ga_KBN ?_; intro _q ⟨_he, _hq⟩)))
    exact ⟨i + 1, h5, ⟨by rfl, ⟨Eq.trans (b := some (.g (.one (.sl 112 (i + 1) (tabN l (i + 1)).length)))) (by rfl) (by rw [tabN_len]), (by repeat (first | exact trivial | refine ⟨by rfl, ?_⟩ | refine ⟨vI_of (by rfl) (by omega), ?_⟩))⟩, (by repeat (first | exact trivial | refine ⟨by rfl, ?_⟩ | refine ⟨vI_of (by rfl) (by omega), ?_⟩))⟩, (by first | omega | (dsimp only; omega))⟩
  · obtain rfl : i = N := by omega
    have hd : decide ((i : Int) < 32) = false := decide_eq_false (by omega)
    (repeat (first | refine gq_KBN ?_ | (refine ga_KBN ?_; intro _q ⟨_he, _hq⟩)))
    ((try refine aw_ret ?_); refine ret_auto2 (by rfl) (by rfl) (by rfl) (by repeat (first | exact trivial | refine ⟨by first | rfl | omega, ?_⟩)) ?_ (by repeat (first | exact trivial | refine ⟨by rfl, by rfl, ?_⟩)) (by repeat (first | exact trivial | refine ⟨by rfl, by rfl, ?_⟩)); try rfl)
    exact congrArg (fun m => AV.g (.one (.sl 0 0 m))) hil.symm
set_option maxHeartbeats 1000000 in
theorem k_ctS6 (l : List Gt) (h : cokB 6 l = true) (N : Nat) (hN : (N : Int) = 64) : Kon Try.prog 34 [vI 6, roA l] [] (slA 0 0 (tabN l N)) [iRow (tabN l N)] [] := by
  obtain ⟨hn, hl, ha⟩ := cokB_t h
  have hC := k_cvS 6 l (by omega) (by omega)
  rw [h] at hC
  (refine kon_mk T0ok (fn := Try.f34) (c := Try.f34.body.get rfl) Try.func34 rfl (by rfl) (by rfl) (by rfl) ?_; intro hfit hfe)
  (repeat (first | refine gq_KBN ?_ | (refine ga_KBN ?_; intro _q ⟨_he, _hq⟩)))
  (refine aw_rd [0, 1] [] (fun i : Nat => [(5, .g (.one (.sl 112 i i))), (6, vI i)]) (fun i => [(112, (i, iRow (tabN l i)))]) (fun i => i ≤ N) (fun i => N - i) 0 (by rfl) (by rfl) ?_ (by rfl) (by repeat (first | exact trivial | refine ⟨by rfl, ?_⟩ | refine ⟨vI_of (by rfl) (by omega), ?_⟩)) (by repeat (first | exact trivial | refine ⟨by rfl, ?_⟩ | refine ⟨vI_of (by rfl) (by omega), ?_⟩)) ?_)
  · exact Nat.zero_le _
  rintro i hi
  have hil := tabN_len l i
  rcases Nat.lt_or_ge i N with h5 | h5
  · have hd : decide ((i : Int) < 64) = true := decide_eq_true (by omega)
    have hR := k_l2Run 6 l (i : Int) ha (by omega) (wv_of hn ⟨by omega, by rw [show (2 : Int) ^ (6 : Int).toNat = 64 from rfl]; omega⟩)
    (repeat (first | refine gq_KBN ?_ | (refine ga_KBN ?_; intro _q ⟨_he, _hq⟩)))
    exact ⟨i + 1, h5, ⟨by rfl, ⟨Eq.trans (b := some (.g (.one (.sl 112 (i + 1) (tabN l (i + 1)).length)))) (by rfl) (by rw [tabN_len]), (by repeat (first | exact trivial | refine ⟨by rfl, ?_⟩ | refine ⟨vI_of (by rfl) (by omega), ?_⟩))⟩, (by repeat (first | exact trivial | refine ⟨by rfl, ?_⟩ | refine ⟨vI_of (by rfl) (by omega), ?_⟩))⟩, (by first | omega | (dsimp only; omega))⟩
  · obtain rfl : i = N := by omega
    have hd : decide ((i : Int) < 64) = false := decide_eq_false (by omega)
    (repeat (first | refine gq_KBN ?_ | (refine ga_KBN ?_; intro _q ⟨_he, _hq⟩)))
    ((try refine aw_ret ?_); refine ret_auto2 (by rfl) (by rfl) (by rfl) (by repeat (first | exact trivial | refine ⟨by first | rfl | omega, ?_⟩)) ?_ (by repeat (first | exact trivial | refine ⟨by rfl, by rfl, ?_⟩)) (by repeat (first | exact trivial | refine ⟨by rfl, by rfl, ?_⟩)); try rfl)
    exact congrArg (fun m => AV.g (.one (.sl 0 0 m))) hil.symm
set_option maxHeartbeats 1000000 in
theorem k_ctS7 (l : List Gt) (h : cokB 7 l = true) (N : Nat) (hN : (N : Int) = 128) : Kon Try.prog 34 [vI 7, roA l] [] (slA 0 0 (tabN l N)) [iRow (tabN l N)] [] := by
  obtain ⟨hn, hl, ha⟩ := cokB_t h
  have hC := k_cvS 7 l (by omega) (by omega)
  rw [h] at hC
  (refine kon_mk T0ok (fn := Try.f34) (c := Try.f34.body.get rfl) Try.func34 rfl (by rfl) (by rfl) (by rfl) ?_; intro hfit hfe)
  (repeat (first | refine gq_KBN ?_ | (refine ga_KBN ?_; intro _q ⟨_he, _hq⟩)))
  (refine aw_rd [0, 1] [] (fun i : Nat => [(5, .g (.one (.sl 112 i i))), (6, vI i)]) (fun i => [(112, (i, iRow (tabN l i)))]) (fun i => i ≤ N) (fun i => N - i) 0 (by rfl) (by rfl) ?_ (by rfl) (by repeat (first | exact trivial | refine ⟨by rfl, ?_⟩ | refine ⟨vI_of (by rfl) (by omega), ?_⟩)) (by repeat (first | exact trivial | refine ⟨by rfl, ?_⟩ | refine ⟨vI_of (by rfl) (by omega), ?_⟩)) ?_)
  · exact Nat.zero_le _
  rintro i hi
  have hil := tabN_len l i
  rcases Nat.lt_or_ge i N with h5 | h5
  · have hd : decide ((i : Int) < 128) = true := decide_eq_true (by omega)
    have hR := k_l2Run 7 l (i : Int) ha (by omega) (wv_of hn ⟨by omega, by rw [show (2 : Int) ^ (7 : Int).toNat = 128 from rfl]; omega⟩)
    (repeat (first | refine gq_KBN ?_ | (refine ga_KBN ?_; intro _q ⟨_he, _hq⟩)))
    exact ⟨i + 1, h5, ⟨by rfl, ⟨Eq.trans (b := some (.g (.one (.sl 112 (i + 1) (tabN l (i + 1)).length)))) (by rfl) (by rw [tabN_len]), (by repeat (first | exact trivial | refine ⟨by rfl, ?_⟩ | refine ⟨vI_of (by rfl) (by omega), ?_⟩))⟩, (by repeat (first | exact trivial | refine ⟨by rfl, ?_⟩ | refine ⟨vI_of (by rfl) (by omega), ?_⟩))⟩, (by first | omega | (dsimp only; omega))⟩
  · obtain rfl : i = N := by omega
    have hd : decide ((i : Int) < 128) = false := decide_eq_false (by omega)
    (repeat (first | refine gq_KBN ?_ | (refine ga_KBN ?_; intro _q ⟨_he, _hq⟩)))
    ((try refine aw_ret ?_); refine ret_auto2 (by rfl) (by rfl) (by rfl) (by repeat (first | exact trivial | refine ⟨by first | rfl | omega, ?_⟩)) ?_ (by repeat (first | exact trivial | refine ⟨by rfl, by rfl, ?_⟩)) (by repeat (first | exact trivial | refine ⟨by rfl, by rfl, ?_⟩)); try rfl)
    exact congrArg (fun m => AV.g (.one (.sl 0 0 m))) hil.symm
set_option maxHeartbeats 1000000 in
theorem k_ctS8 (l : List Gt) (h : cokB 8 l = true) (N : Nat) (hN : (N : Int) = 256) : Kon Try.prog 34 [vI 8, roA l] [] (slA 0 0 (tabN l N)) [iRow (tabN l N)] [] := by
  obtain ⟨hn, hl, ha⟩ := cokB_t h
  have hC := k_cvS 8 l (by omega) (by omega)
  rw [h] at hC
  (refine kon_mk T0ok (fn := Try.f34) (c := Try.f34.body.get rfl) Try.func34 rfl (by rfl) (by rfl) (by rfl) ?_; intro hfit hfe)
  (repeat (first | refine gq_KBN ?_ | (refine ga_KBN ?_; intro _q ⟨_he, _hq⟩)))
  (refine aw_rd [0, 1] [] (fun i : Nat => [(5, .g (.one (.sl 112 i i))), (6, vI i)]) (fun i => [(112, (i, iRow (tabN l i)))]) (fun i => i ≤ N) (fun i => N - i) 0 (by rfl) (by rfl) ?_ (by rfl) (by repeat (first | exact trivial | refine ⟨by rfl, ?_⟩ | refine ⟨vI_of (by rfl) (by omega), ?_⟩)) (by repeat (first | exact trivial | refine ⟨by rfl, ?_⟩ | refine ⟨vI_of (by rfl) (by omega), ?_⟩)) ?_)
  · exact Nat.zero_le _
  rintro i hi
  have hil := tabN_len l i
  rcases Nat.lt_or_ge i N with h5 | h5
  · have hd : decide ((i : Int) < 256) = true := decide_eq_true (by omega)
    have hR := k_l2Run 8 l (i : Int) ha (by omega) (wv_of hn ⟨by omega, by rw [show (2 : Int) ^ (8 : Int).toNat = 256 from rfl]; omega⟩)
    (repeat (first | refine gq_KBN ?_ | (refine ga_KBN ?_; intro _q ⟨_he, _hq⟩)))
    exact ⟨i + 1, h5, ⟨by rfl, ⟨Eq.trans (b := some (.g (.one (.sl 112 (i + 1) (tabN l (i + 1)).length)))) (by rfl) (by rw [tabN_len]), (by repeat (first | exact trivial | refine ⟨by rfl, ?_⟩ | refine ⟨vI_of (by rfl) (by omega), ?_⟩))⟩, (by repeat (first | exact trivial | refine ⟨by rfl, ?_⟩ | refine ⟨vI_of (by rfl) (by omega), ?_⟩))⟩, (by first | omega | (dsimp only; omega))⟩
  · obtain rfl : i = N := by omega
    have hd : decide ((i : Int) < 256) = false := decide_eq_false (by omega)
    (repeat (first | refine gq_KBN ?_ | (refine ga_KBN ?_; intro _q ⟨_he, _hq⟩)))
    ((try refine aw_ret ?_); refine ret_auto2 (by rfl) (by rfl) (by rfl) (by repeat (first | exact trivial | refine ⟨by first | rfl | omega, ?_⟩)) ?_ (by repeat (first | exact trivial | refine ⟨by rfl, by rfl, ?_⟩)) (by repeat (first | exact trivial | refine ⟨by rfl, by rfl, ?_⟩)); try rfl)
    exact congrArg (fun m => AV.g (.one (.sl 0 0 m))) hil.symm
theorem k_ctS (n : Int) (l : List Gt) (h : cokB n l = true) (N : Nat) (hN : (1 * 2 ^ n.toNat : Int) = (N : Int)) : Kon Try.prog 34 [vI n, roA l] [] (slA 0 0 (tabN l N)) [iRow (tabN l N)] [] := by
  obtain ⟨hn, hl, ha⟩ := cokB_t h
  obtain rfl | rfl | rfl | rfl | rfl | rfl | rfl | rfl : n = 1 ∨ n = 2 ∨ n = 3 ∨ n = 4 ∨ n = 5 ∨ n = 6 ∨ n = 7 ∨ n = 8 := by omega
  · exact k_ctS1 l h N hN.symm
  · exact k_ctS2 l h N hN.symm
  · exact k_ctS3 l h N hN.symm
  · exact k_ctS4 l h N hN.symm
  · exact k_ctS5 l h N hN.symm
  · exact k_ctS6 l h N hN.symm
  · exact k_ctS7 l h N hN.symm
  · exact k_ctS8 l h N hN.symm
set_option maxHeartbeats 1000000 in
theorem k_ctS0 (n : Int) (l : List Gt) (hl : l.length ≤ 1000) (hn : -1 ≤ n ∧ n ≤ 9) (h : cokB n l = false) : Kon Try.prog 34 [vI n, roA l] [] (slA 0 0 ([] : List Int)) [iRow []] [] := by
  have hC := k_cvS n l (by omega) (by omega)
  rw [h] at hC
  clear h
  obtain rfl | rfl | rfl | rfl | rfl | rfl | rfl | rfl | rfl | rfl | rfl : n = -1 ∨ n = 0 ∨ n = 1 ∨ n = 2 ∨ n = 3 ∨ n = 4 ∨ n = 5 ∨ n = 6 ∨ n = 7 ∨ n = 8 ∨ n = 9 := by omega
  all_goals (refine kon_mk T0ok (fn := Try.f34) (c := Try.f34.body.get rfl) Try.func34 rfl (by rfl) (by rfl) (by rfl) ?_; intro hfit hfe)
  all_goals ((repeat (first | refine gq_KBN ?_ | (refine ga_KBN ?_; intro _q ⟨_he, _hq⟩))))
  all_goals (refine aw_unroll 3 ?_)
  all_goals ((repeat (first | refine gq_KBN ?_ | (refine ga_KBN ?_; intro _q ⟨_he, _hq⟩))))
  all_goals (((try refine aw_ret ?_); refine ret_auto2 (by rfl) (by rfl) (by rfl) (by repeat (first | exact trivial | refine ⟨by first | rfl | omega, ?_⟩)) ?_ (by repeat (first | exact trivial | refine ⟨by rfl, by rfl, ?_⟩)) (by repeat (first | exact trivial | refine ⟨by rfl, by rfl, ?_⟩)); try rfl))
theorem k_si (l : List Int) (h : l.length ≤ 10000000) : Kon Try.prog 33 [roA l, roA l] [] (vB true) [] [] := by
  have h1 : ((l.length : Int) != (l.length : Int)) = false := by simp
  have hg : ∀ x : Int, (x != x) = false := fun x => by simp
  (refine kon_mk T0ok (fn := Try.f33) (c := Try.f33.body.get rfl) Try.func33 rfl (by rfl) (by rfl) (by rfl) ?_; intro hfit hfe)
  (repeat (first | refine gq_KBN ?_ | (refine ga_KBN ?_; intro _q ⟨_he, _hq⟩)))
  (refine aw_rd [0, 1] [] (fun i : Nat => [(5, vI i)]) (fun _ => []) (fun i => i ≤ l.length) (fun i => l.length - i) 0 (by rfl) (by rfl) ?_ (by rfl) (by repeat (first | exact trivial | refine ⟨by rfl, ?_⟩ | refine ⟨vI_of (by rfl) (by omega), ?_⟩)) (by repeat (first | exact trivial | refine ⟨by rfl, ?_⟩ | refine ⟨vI_of (by rfl) (by omega), ?_⟩)) ?_)
  · exact Nat.zero_le _
  rintro i hi
  rcases Nat.lt_or_ge i l.length with h5 | h5
  · have hd : decide ((i : Int) < (l.length : Int)) = true := decide_eq_true (by omega)
    have hg := hg (l.getD (i : Int).toNat Cel.no)
    (repeat (first | refine gq_KBN ?_ | (refine ga_KBN ?_; intro _q ⟨_he, _hq⟩) | refine gd_KBN ?_))
    exact ⟨i + 1, h5, ⟨by rfl, (by repeat (first | exact trivial | refine ⟨by rfl, ?_⟩ | refine ⟨vI_of (by rfl) (by omega), ?_⟩)), (by repeat (first | exact trivial | refine ⟨by rfl, ?_⟩ | refine ⟨vI_of (by rfl) (by omega), ?_⟩))⟩, (by first | omega | (dsimp only; omega))⟩
  · have hd : decide ((i : Int) < (l.length : Int)) = false := decide_eq_false (by omega)
    (repeat (first | refine gq_KBN ?_ | (refine ga_KBN ?_; intro _q ⟨_he, _hq⟩) | refine gd_KBN ?_))
    ((try refine aw_ret ?_); refine ret_auto2 (by rfl) (by rfl) (by rfl) (by repeat (first | exact trivial | refine ⟨by first | rfl | omega, ?_⟩)) ?_ (by repeat (first | exact trivial | refine ⟨by rfl, by rfl, ?_⟩)) (by repeat (first | exact trivial | refine ⟨by rfl, by rfl, ?_⟩)); try rfl)
theorem k_whole (l : List Int) (h : l.length ≤ 100000) (hb : ∀ i : Nat, i < l.length → (0 ≤ l.getD i 0 ∧ l.getD i 0 < (l.length : Int)) ∧ hasB (l.take i) (l.getD i 0) = false) : Kon Try.prog 35 [roA l] [] (vB true) [] [] := by
  (refine kon_mk T0ok (fn := Try.f35) (c := Try.f35.body.get rfl) Try.func35 rfl (by rfl) (by rfl) (by rfl) ?_; intro hfit hfe)
  (repeat (first | refine gq_KBN ?_ | (refine ga_KBN ?_; intro _q ⟨_he, _hq⟩)))
  (refine aw_rd [0] [] (fun i : Nat => [(3, vI i)]) (fun _ => []) (fun i => i ≤ l.length) (fun i => l.length - i) 0 (by rfl) (by rfl) ?_ (by rfl) (by repeat (first | exact trivial | refine ⟨by rfl, ?_⟩ | refine ⟨vI_of (by rfl) (by omega), ?_⟩)) (by repeat (first | exact trivial | refine ⟨by rfl, ?_⟩ | refine ⟨vI_of (by rfl) (by omega), ?_⟩)) ?_)
  · exact Nat.zero_le _
  rintro i hi
  rcases Nat.lt_or_ge i l.length with h5 | h5
  · have hd : decide ((i : Int) < (l.length : Int)) = true := decide_eq_true (by omega)
    have hx : 0 ≤ l.getD (i : Int).toNat Cel.no ∧ l.getD (i : Int).toNat Cel.no < (l.length : Int) := (hb i h5).1
    have hH := k_hasL (l.take i) (l.getD i 0) (by rw [List.length_take]; omega)
    rw [(hb i h5).2] at hH
    replace hH : Kon Try.prog 49 [roA (l.take (i : Int).toNat), vI (l.getD (i : Int).toNat Cel.no)] [] (vB false) [] [] := hH
    have hd1 : decide (l.getD (i : Int).toNat Cel.no < 0) = false := decide_eq_false (by omega)
    have hd2 : decide (l.getD (i : Int).toNat Cel.no ≥ (l.length : Int)) = false := decide_eq_false (by omega)
    (repeat (first | refine gq_KBN ?_ | (refine ga_KBN ?_; intro _q ⟨_he, _hq⟩) | refine gd_KBN ?_))
    exact ⟨i + 1, h5, ⟨by rfl, (by repeat (first | exact trivial | refine ⟨by rfl, ?_⟩ | refine ⟨vI_of (by rfl) (by omega), ?_⟩)), (by repeat (first | exact trivial | refine ⟨by rfl, ?_⟩ | refine ⟨vI_of (by rfl) (by omega), ?_⟩))⟩, (by first | omega | (dsimp only; omega))⟩
  · have hd : decide ((i : Int) < (l.length : Int)) = false := decide_eq_false (by omega)
    (repeat (first | refine gq_KBN ?_ | (refine ga_KBN ?_; intro _q ⟨_he, _hq⟩) | refine gd_KBN ?_))
    ((try refine aw_ret ?_); refine ret_auto2 (by rfl) (by rfl) (by rfl) (by repeat (first | exact trivial | refine ⟨by first | rfl | omega, ?_⟩)) ?_ (by repeat (first | exact trivial | refine ⟨by rfl, by rfl, ?_⟩)) (by repeat (first | exact trivial | refine ⟨by rfl, by rfl, ?_⟩)); try rfl)
end Go.Proofs.Ytgifhhefcmmdfaa
