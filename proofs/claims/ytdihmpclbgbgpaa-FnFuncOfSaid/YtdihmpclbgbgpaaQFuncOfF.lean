/- KGH, KGM, KGF, KGI, KGJ, PF, KNB: laid into one text. -/
import Derived.Test.YtdihmpclbgbgpaaQFuncOfE

/- The reference's gates: lines, valid gates, what they make of words. -/
namespace Go.Proofs.Ytdihmpclbgbgpaa
set_option linter.unusedVariables false
set_option linter.unusedSimpArgs false
set_option maxRecDepth 20000
open Go.RowKit
attribute [local irreducible] runA runX AW
theorem gq_KGH {H G : Prop} (k : H) (h : Hid H → G := by (intro hh; (first | (first | ((first | refine r_none ?_ | refine r_gt (by rfl) (by rfl) (by first | rfl | assumption | omega | (simp only [*, Bool.not_false, Bool.not_true]; first | done | fail) | (simp [*]; first | done | fail)) (by rfl) ?_ | refine r_gf (by rfl) (by rfl) (by first | rfl | assumption | omega | (simp only [*, Bool.not_false, Bool.not_true]; first | done | fail) | (simp [*]; first | done | fail)) (by rfl) ?_); (first | fail | ((first | (refine z_op (by rfl) ?_; first | refine z_ok ?_ ?_ | refine z_ex ?_ (by first | exact ft_raw rfl rfl | ((first | refine ft_rp rfl rfl rfl ?_ | refine ft_row rfl rfl rfl ?_ | refine ft_rpF rfl rfl rfl ?_ | refine ft_rowF rfl rfl rfl ?_ | refine up_row rfl rfl ?_ | refine up_rowF rfl rfl rfl ?_ | refine ct_0 rfl ?_ | refine ct_r rfl rfl ?_ | refine ct_c rfl rfl rfl ?_ | refine cu_all rfl ?_ | refine cu_to rfl ?_ | refine cu_from rfl ?_ | refine cu_p rfl ?_ | fail); (first | omega | (simp only [List.length_append, List.length_replicate, List.length_cons, List.length_nil, List.length_set, List.length_take, List.length_drop, true_and]; omega))) | exact up_raw rfl | exact pk_t (by first | rfl | assumption | omega | (simp only [*, Bool.not_false, Bool.not_true]; first | done | fail) | (simp [*]; first | done | fail)) rfl | exact pk_f (by first | rfl | assumption | omega | (simp only [*, Bool.not_false, Bool.not_true]; first | done | fail) | (simp [*]; first | done | fail)) rfl | exact rw_c Int rfl | exact rw_raw | exact pu_cv (fun w => rfl) (by omega) | exact pu_of (fun w => rfl) rfl | exact be_of (fun w => rfl) | exact nc_of (fun _ _ _ _ => rfl) rfl | exact bu_of (fun w => rfl) rfl | fail) ?_) | ((first | refine q_callE wsT wsZ (by rfl) ?_ | refine q_callVE wsT (by rfl) (by rfl) ?_); refine ⟨_, _, _, (by first | assumption | exact k_l1In _ _ _ | exact k_linesS _ | exact k_has _ _ (by omega) | exact k_wvS2 _ _ | exact k_bitS _ _ (by omega) | exact k_turnS _ _ (by omega)), _, by rfl, ?_, ?_⟩)); focus (first | exact trivial | fail | exact rfl | (first | omega | (simp only [List.length_append, List.length_replicate, List.length_cons, List.length_nil, List.length_set, List.length_take, List.length_drop, true_and]; omega)) | exact cvB (fun w => rfl) | ((repeat' (first | exact rfl | exact cV_len _ | exact cV_ln rfl (by omega) | exact Cel.pos | omega | exact trivial | refine And.intro ?_ ?_)); done) | (simp [*]; done) | (simp; omega))) | fail)) | refine r_nt (by rfl) (by rfl) (by first | rfl | assumption | omega | (simp only [*, Bool.not_false, Bool.not_true]; first | done | fail) | (simp [*]; first | done | fail)) (by rfl) ?_ | refine r_nf (by rfl) (by rfl) (by first | rfl | assumption | omega | (simp only [*, Bool.not_false, Bool.not_true]; first | done | fail) | (simp [*]; first | done | fail)) (by rfl) ?_ | refine r_gu (by rfl) (by rfl) (by rfl) ?_ | refine r_nil ?_) | (first | refine aw_seq ?_ | refine aw_ct (by rfl) (by first | rfl | assumption | omega | (simp only [*, Bool.not_false, Bool.not_true]; first | done | fail) | (simp [*]; first | done | fail)) ?_ | refine aw_cf (by rfl) (by first | rfl | assumption | omega | (simp only [*, Bool.not_false, Bool.not_true]; first | done | fail) | (simp [*]; first | done | fail)) ?_ | refine aw_block ?_ | refine aw_region T0ok cfU_ok (by rfl) ?_ | refine aw_skip ?_ | refine aw_exit ?_ | refine ra_step ?_)); (repeat (first | (first | ((first | refine r_none ?_ | refine r_gt (by rfl) (by rfl) (by first | rfl | assumption | omega | (simp only [*, Bool.not_false, Bool.not_true]; first | done | fail) | (simp [*]; first | done | fail)) (by rfl) ?_ | refine r_gf (by rfl) (by rfl) (by first | rfl | assumption | omega | (simp only [*, Bool.not_false, Bool.not_true]; first | done | fail) | (simp [*]; first | done | fail)) (by rfl) ?_); (first | fail | ((first | (refine z_op (by rfl) ?_; first | refine z_ok ?_ ?_ | refine z_ex ?_ (by first | exact ft_raw rfl rfl | ((first | refine ft_rp rfl rfl rfl ?_ | refine ft_row rfl rfl rfl ?_ | refine ft_rpF rfl rfl rfl ?_ | refine ft_rowF rfl rfl rfl ?_ | refine up_row rfl rfl ?_ | refine up_rowF rfl rfl rfl ?_ | refine ct_0 rfl ?_ | refine ct_r rfl rfl ?_ | refine ct_c rfl rfl rfl ?_ | refine cu_all rfl ?_ | refine cu_to rfl ?_ | refine cu_from rfl ?_ | refine cu_p rfl ?_ | fail); (first | omega | (simp only [List.length_append, List.length_replicate, List.length_cons, List.length_nil, List.length_set, List.length_take, List.length_drop, true_and]; omega))) | exact up_raw rfl | exact pk_t (by first | rfl | assumption | omega | (simp only [*, Bool.not_false, Bool.not_true]; first | done | fail) | (simp [*]; first | done | fail)) rfl | exact pk_f (by first | rfl | assumption | omega | (simp only [*, Bool.not_false, Bool.not_true]; first | done | fail) | (simp [*]; first | done | fail)) rfl | exact rw_c Int rfl | exact rw_raw | exact pu_cv (fun w => rfl) (by omega) | exact pu_of (fun w => rfl) rfl | exact be_of (fun w => rfl) | exact nc_of (fun _ _ _ _ => rfl) rfl | exact bu_of (fun w => rfl) rfl | fail) ?_) | ((first | refine q_callE wsT wsZ (by rfl) ?_ | refine q_callVE wsT (by rfl) (by rfl) ?_); refine ⟨_, _, _, (by first | assumption | exact k_l1In _ _ _ | exact k_linesS _ | exact k_has _ _ (by omega) | exact k_wvS2 _ _ | exact k_bitS _ _ (by omega) | exact k_turnS _ _ (by omega)), _, by rfl, ?_, ?_⟩)); focus (first | exact trivial | fail | exact rfl | (first | omega | (simp only [List.length_append, List.length_replicate, List.length_cons, List.length_nil, List.length_set, List.length_take, List.length_drop, true_and]; omega)) | exact cvB (fun w => rfl) | ((repeat' (first | exact rfl | exact cV_len _ | exact cV_ln rfl (by omega) | exact Cel.pos | omega | exact trivial | refine And.intro ?_ ?_)); done) | (simp [*]; done) | (simp; omega))) | fail)) | refine r_nt (by rfl) (by rfl) (by first | rfl | assumption | omega | (simp only [*, Bool.not_false, Bool.not_true]; first | done | fail) | (simp [*]; first | done | fail)) (by rfl) ?_ | refine r_nf (by rfl) (by rfl) (by first | rfl | assumption | omega | (simp only [*, Bool.not_false, Bool.not_true]; first | done | fail) | (simp [*]; first | done | fail)) (by rfl) ?_ | refine r_gu (by rfl) (by rfl) (by rfl) ?_ | refine r_nil ?_) | (first | refine aw_seq ?_ | refine aw_ct (by rfl) (by first | rfl | assumption | omega | (simp only [*, Bool.not_false, Bool.not_true]; first | done | fail) | (simp [*]; first | done | fail)) ?_ | refine aw_cf (by rfl) (by first | rfl | assumption | omega | (simp only [*, Bool.not_false, Bool.not_true]; first | done | fail) | (simp [*]; first | done | fail)) ?_ | refine aw_block ?_ | refine aw_region T0ok cfU_ok (by rfl) ?_ | refine aw_skip ?_ | refine aw_exit ?_ | refine ra_step ?_))); exact hh.out)) : G := h ⟨k⟩
theorem ga_KGH {H G : Prop} (k : H) (h : Hid H → G := by (intro hh; (first | refine r_none ?_ | refine r_gt (by rfl) (by rfl) (by first | rfl | assumption | omega | (simp only [*, Bool.not_false, Bool.not_true]; first | done | fail) | (simp [*]; first | done | fail)) (by rfl) ?_ | refine r_gf (by rfl) (by rfl) (by first | rfl | assumption | omega | (simp only [*, Bool.not_false, Bool.not_true]; first | done | fail) | (simp [*]; first | done | fail)) (by rfl) ?_); refine z_op (by rfl) ?_; refine z_alV ?_ hh.out; focus (first | exact trivial | fail | exact rfl | (first | omega | (simp only [List.length_append, List.length_replicate, List.length_cons, List.length_nil, List.length_set, List.length_take, List.length_drop, true_and]; omega)) | exact cvB (fun w => rfl) | ((repeat' (first | exact rfl | exact cV_len _ | exact cV_ln rfl (by omega) | exact Cel.pos | omega | exact trivial | refine And.intro ?_ ?_)); done) | (simp [*]; done) | (simp; omega)))) : G := h ⟨k⟩
theorem gs_KGH {H G : Prop} (k : H) (h : Hid H → G := by (intro hh; (first | ((first | refine r_none ?_ | refine r_gt (by rfl) (by rfl) (by first | rfl | assumption | omega | (simp only [*, Bool.not_false, Bool.not_true]; first | done | fail) | (simp [*]; first | done | fail)) (by rfl) ?_ | refine r_gf (by rfl) (by rfl) (by first | rfl | assumption | omega | (simp only [*, Bool.not_false, Bool.not_true]; first | done | fail) | (simp [*]; first | done | fail)) (by rfl) ?_); (first | fail | ((first | (refine z_op (by rfl) ?_; first | refine z_ok ?_ ?_ | refine z_ex ?_ (by first | exact ft_raw rfl rfl | ((first | refine ft_rp rfl rfl rfl ?_ | refine ft_row rfl rfl rfl ?_ | refine ft_rpF rfl rfl rfl ?_ | refine ft_rowF rfl rfl rfl ?_ | refine up_row rfl rfl ?_ | refine up_rowF rfl rfl rfl ?_ | refine ct_0 rfl ?_ | refine ct_r rfl rfl ?_ | refine ct_c rfl rfl rfl ?_ | refine cu_all rfl ?_ | refine cu_to rfl ?_ | refine cu_from rfl ?_ | refine cu_p rfl ?_ | fail); (first | omega | (simp only [List.length_append, List.length_replicate, List.length_cons, List.length_nil, List.length_set, List.length_take, List.length_drop, true_and]; omega))) | exact up_raw rfl | exact pk_t (by first | rfl | assumption | omega | (simp only [*, Bool.not_false, Bool.not_true]; first | done | fail) | (simp [*]; first | done | fail)) rfl | exact pk_f (by first | rfl | assumption | omega | (simp only [*, Bool.not_false, Bool.not_true]; first | done | fail) | (simp [*]; first | done | fail)) rfl | exact rw_c Int rfl | exact rw_raw | exact pu_cv (fun w => rfl) (by omega) | exact pu_of (fun w => rfl) rfl | exact be_of (fun w => rfl) | exact nc_of (fun _ _ _ _ => rfl) rfl | exact bu_of (fun w => rfl) rfl | fail) ?_) | ((first | refine q_callE wsT wsZ (by rfl) ?_ | refine q_callVE wsT (by rfl) (by rfl) ?_); refine ⟨_, _, _, (by first | assumption | exact k_l1In _ _ _ | exact k_linesS _ | exact k_has _ _ (by omega) | exact k_wvS2 _ _ | exact k_bitS _ _ (by omega) | exact k_turnS _ _ (by omega)), _, by rfl, ?_, ?_⟩)); focus (first | exact trivial | fail | exact rfl | (first | omega | (simp only [List.length_append, List.length_replicate, List.length_cons, List.length_nil, List.length_set, List.length_take, List.length_drop, true_and]; omega)) | exact cvB (fun w => rfl) | ((repeat' (first | exact rfl | exact cV_len _ | exact cV_ln rfl (by omega) | exact Cel.pos | omega | exact trivial | refine And.intro ?_ ?_)); done) | (simp [*]; done) | (simp; omega))) | fail)) | refine r_nt (by rfl) (by rfl) (by first | rfl | assumption | omega | (simp only [*, Bool.not_false, Bool.not_true]; first | done | fail) | (simp [*]; first | done | fail)) (by rfl) ?_ | refine r_nf (by rfl) (by rfl) (by first | rfl | assumption | omega | (simp only [*, Bool.not_false, Bool.not_true]; first | done | fail) | (simp [*]; first | done | fail)) (by rfl) ?_ | refine r_gu (by rfl) (by rfl) (by rfl) ?_ | refine r_nil ?_); (repeat (first | ((first | refine r_none ?_ | refine r_gt (by rfl) (by rfl) (by first | rfl | assumption | omega | (simp only [*, Bool.not_false, Bool.not_true]; first | done | fail) | (simp [*]; first | done | fail)) (by rfl) ?_ | refine r_gf (by rfl) (by rfl) (by first | rfl | assumption | omega | (simp only [*, Bool.not_false, Bool.not_true]; first | done | fail) | (simp [*]; first | done | fail)) (by rfl) ?_); (first | fail | ((first | (refine z_op (by rfl) ?_; first | refine z_ok ?_ ?_ | refine z_ex ?_ (by first | exact ft_raw rfl rfl | ((first | refine ft_rp rfl rfl rfl ?_ | refine ft_row rfl rfl rfl ?_ | refine ft_rpF rfl rfl rfl ?_ | refine ft_rowF rfl rfl rfl ?_ | refine up_row rfl rfl ?_ | refine up_rowF rfl rfl rfl ?_ | refine ct_0 rfl ?_ | refine ct_r rfl rfl ?_ | refine ct_c rfl rfl rfl ?_ | refine cu_all rfl ?_ | refine cu_to rfl ?_ | refine cu_from rfl ?_ | refine cu_p rfl ?_ | fail); (first | omega | (simp only [List.length_append, List.length_replicate, List.length_cons, List.length_nil, List.length_set, List.length_take, List.length_drop, true_and]; omega))) | exact up_raw rfl | exact pk_t (by first | rfl | assumption | omega | (simp only [*, Bool.not_false, Bool.not_true]; first | done | fail) | (simp [*]; first | done | fail)) rfl | exact pk_f (by first | rfl | assumption | omega | (simp only [*, Bool.not_false, Bool.not_true]; first | done | fail) | (simp [*]; first | done | fail)) rfl | exact rw_c Int rfl | exact rw_raw | exact pu_cv (fun w => rfl) (by omega) | exact pu_of (fun w => rfl) rfl | exact be_of (fun w => rfl) | exact nc_of (fun _ _ _ _ => rfl) rfl | exact bu_of (fun w => rfl) rfl | fail) ?_) | ((first | refine q_callE wsT wsZ (by rfl) ?_ | refine q_callVE wsT (by rfl) (by rfl) ?_); refine ⟨_, _, _, (by first | assumption | exact k_l1In _ _ _ | exact k_linesS _ | exact k_has _ _ (by omega) | exact k_wvS2 _ _ | exact k_bitS _ _ (by omega) | exact k_turnS _ _ (by omega)), _, by rfl, ?_, ?_⟩)); focus (first | exact trivial | fail | exact rfl | (first | omega | (simp only [List.length_append, List.length_replicate, List.length_cons, List.length_nil, List.length_set, List.length_take, List.length_drop, true_and]; omega)) | exact cvB (fun w => rfl) | ((repeat' (first | exact rfl | exact cV_len _ | exact cV_ln rfl (by omega) | exact Cel.pos | omega | exact trivial | refine And.intro ?_ ?_)); done) | (simp [*]; done) | (simp; omega))) | fail)) | refine r_nt (by rfl) (by rfl) (by first | rfl | assumption | omega | (simp only [*, Bool.not_false, Bool.not_true]; first | done | fail) | (simp [*]; first | done | fail)) (by rfl) ?_ | refine r_nf (by rfl) (by rfl) (by first | rfl | assumption | omega | (simp only [*, Bool.not_false, Bool.not_true]; first | done | fail) | (simp [*]; first | done | fail)) (by rfl) ?_ | refine r_gu (by rfl) (by rfl) (by rfl) ?_ | refine r_nil ?_)); exact hh.out)) : G := h ⟨k⟩
theorem gc_KGH {H G : Prop} (k : H) (h : Hid H → G := by (intro hh; (first | refine aw_seq ?_ | refine aw_ct (by rfl) (by first | rfl | assumption | omega | (simp only [*, Bool.not_false, Bool.not_true]; first | done | fail) | (simp [*]; first | done | fail)) ?_ | refine aw_cf (by rfl) (by first | rfl | assumption | omega | (simp only [*, Bool.not_false, Bool.not_true]; first | done | fail) | (simp [*]; first | done | fail)) ?_ | refine aw_block ?_ | refine aw_region T0ok cfU_ok (by rfl) ?_ | refine aw_skip ?_ | refine aw_exit ?_ | refine ra_step ?_); (repeat (first | refine aw_seq ?_ | refine aw_ct (by rfl) (by first | rfl | assumption | omega | (simp only [*, Bool.not_false, Bool.not_true]; first | done | fail) | (simp [*]; first | done | fail)) ?_ | refine aw_cf (by rfl) (by first | rfl | assumption | omega | (simp only [*, Bool.not_false, Bool.not_true]; first | done | fail) | (simp [*]; first | done | fail)) ?_ | refine aw_block ?_ | refine aw_region T0ok cfU_ok (by rfl) ?_ | refine aw_skip ?_ | refine aw_exit ?_ | refine ra_step ?_)); exact hh.out)) : G := h ⟨k⟩
theorem gd_KGH {H G : Prop} (k : H) (h : Hid H → G := by (intro hh; (refine aw_draw mixed T0ok cfU_ok [] (by rfl) (by kernel_rfl) ?_); exact hh.out)) : G := h ⟨k⟩
theorem k_linesS (g : Gt) : Kon Try.prog 71 [gV g] [] (slA 0 0 (lns g)) [iRow (lns g)] [] := by
  obtain ⟨k, a, b, c⟩ := g
  by_cases h0 : k = 0
  · subst h0
    (refine kon_mk T0ok (fn := Try.f71) (c := Try.f71.body.get rfl) Try.func71 rfl (by rfl) (by rfl) (by rfl) ?_; intro hfit hfe)
    (repeat (first | refine gq_KGH ?_ | (refine ga_KGH ?_; intro _hq)))
    ((try refine aw_ret ?_); refine ret_auto2 (by rfl) (by rfl) (by rfl) (by repeat (first | exact trivial | refine ⟨by first | rfl | omega, ?_⟩)) ?_ (by repeat (first | exact trivial | refine ⟨by rfl, by rfl, ?_⟩)) (by repeat (first | exact trivial | refine ⟨by rfl, by rfl, ?_⟩)); try rfl)
  by_cases h1 : k = 1
  · subst h1
    (refine kon_mk T0ok (fn := Try.f71) (c := Try.f71.body.get rfl) Try.func71 rfl (by rfl) (by rfl) (by rfl) ?_; intro hfit hfe)
    (repeat (first | refine gq_KGH ?_ | (refine ga_KGH ?_; intro _hq)))
    ((try refine aw_ret ?_); refine ret_auto2 (by rfl) (by rfl) (by rfl) (by repeat (first | exact trivial | refine ⟨by first | rfl | omega, ?_⟩)) ?_ (by repeat (first | exact trivial | refine ⟨by rfl, by rfl, ?_⟩)) (by repeat (first | exact trivial | refine ⟨by rfl, by rfl, ?_⟩)); try rfl)
  by_cases h2 : k = 2
  · subst h2
    (refine kon_mk T0ok (fn := Try.f71) (c := Try.f71.body.get rfl) Try.func71 rfl (by rfl) (by rfl) (by rfl) ?_; intro hfit hfe)
    (repeat (first | refine gq_KGH ?_ | (refine ga_KGH ?_; intro _hq)))
    ((try refine aw_ret ?_); refine ret_auto2 (by rfl) (by rfl) (by rfl) (by repeat (first | exact trivial | refine ⟨by first | rfl | omega, ?_⟩)) ?_ (by repeat (first | exact trivial | refine ⟨by rfl, by rfl, ?_⟩)) (by repeat (first | exact trivial | refine ⟨by rfl, by rfl, ?_⟩)); try rfl)
  by_cases h3 : k = 3
  · subst h3
    (refine kon_mk T0ok (fn := Try.f71) (c := Try.f71.body.get rfl) Try.func71 rfl (by rfl) (by rfl) (by rfl) ?_; intro hfit hfe)
    (repeat (first | refine gq_KGH ?_ | (refine ga_KGH ?_; intro _hq)))
    ((try refine aw_ret ?_); refine ret_auto2 (by rfl) (by rfl) (by rfl) (by repeat (first | exact trivial | refine ⟨by first | rfl | omega, ?_⟩)) ?_ (by repeat (first | exact trivial | refine ⟨by rfl, by rfl, ?_⟩)) (by repeat (first | exact trivial | refine ⟨by rfl, by rfl, ?_⟩)); try rfl)
  by_cases h4 : k = 4
  · subst h4
    (refine kon_mk T0ok (fn := Try.f71) (c := Try.f71.body.get rfl) Try.func71 rfl (by rfl) (by rfl) (by rfl) ?_; intro hfit hfe)
    (repeat (first | refine gq_KGH ?_ | (refine ga_KGH ?_; intro _hq)))
    ((try refine aw_ret ?_); refine ret_auto2 (by rfl) (by rfl) (by rfl) (by repeat (first | exact trivial | refine ⟨by first | rfl | omega, ?_⟩)) ?_ (by repeat (first | exact trivial | refine ⟨by rfl, by rfl, ?_⟩)) (by repeat (first | exact trivial | refine ⟨by rfl, by rfl, ?_⟩)); try rfl)
  have e : lns ⟨k, a, b, c⟩ = [] := by simp [lns, h0, h1, h2, h3, h4]
  have e0 : (k == 0) = false := by simpa using h0
  have e1 : (k == 1) = false := by simpa using h1
  have e2 : (k == 2) = false := by simpa using h2
  have e3 : (k == 3) = false := by simpa using h3
  have e4 : (k == 4) = false := by simpa using h4
  rw [e]
  clear e h0 h1 h2 h3 h4
  (refine kon_mk T0ok (fn := Try.f71) (c := Try.f71.body.get rfl) Try.func71 rfl (by rfl) (by rfl) (by rfl) ?_; intro hfit hfe)
  (repeat (first | refine gq_KGH ?_ | (refine ga_KGH ?_; intro _hq)))
  ((try refine aw_ret ?_); refine ret_auto2 (by rfl) (by rfl) (by rfl) (by repeat (first | exact trivial | refine ⟨by first | rfl | omega, ?_⟩)) ?_ (by repeat (first | exact trivial | refine ⟨by rfl, by rfl, ?_⟩)) (by repeat (first | exact trivial | refine ⟨by rfl, by rfl, ?_⟩)); try rfl)
def hasB (l : List Int) (x : Int) : Bool := l.any (· == x)
theorem has_drop {l : List Int} {x : Int} {i : Nat} (hi : i < l.length) : hasB (l.drop i) x = ((l.getD i 0 == x) || hasB (l.drop (i + 1)) x) := by
  have e : l.getD i 0 = l[i] := by simp [List.getD_eq_getElem?_getD, hi]
  rw [List.drop_eq_getElem_cons hi, e]; rfl
theorem k_has (l : List Int) (x : Int) (h : l.length ≤ 100000000) : Kon Try.prog 70 [roA l, vI x] [] (vB (hasB l x)) [] [] := by
  (refine kon_mk T0ok (fn := Try.f70) (c := Try.f70.body.get rfl) Try.func70 rfl (by rfl) (by rfl) (by rfl) ?_; intro hfit hfe)
  (repeat (first | refine gq_KGH ?_ | (refine ga_KGH ?_; intro _hq)))
  (refine aw_rd [0, 1] [] (fun i : Nat => [(5, vI i)]) (fun _ => []) (fun i => i ≤ l.length ∧ hasB (l.drop i) x = hasB l x) (fun i => l.length - i) 0 (by rfl) (by rfl) ?_ (by rfl) (by repeat (first | exact trivial | refine ⟨by rfl, ?_⟩ | refine ⟨vI_of (by rfl) (by omega), ?_⟩)) (by repeat (first | exact trivial | refine ⟨by rfl, ?_⟩ | refine ⟨vI_of (by rfl) (by omega), ?_⟩)) ?_)
  · exact ⟨Nat.zero_le _, by rw [List.drop_zero]⟩
  rintro i ⟨hi, hz⟩
  rcases Nat.lt_or_ge i l.length with h6 | h6
  · have hd : decide ((i : Int) < (l.length : Int)) = true := by simpa using h6
    have e := has_drop (x := x) h6
    rw [hz] at e
    cases hb : (l.getD i 0 == x) with
    | true =>
      have hb2 : (l.getD (i : Int).toNat (Cel.no : Int) == x) = true := hb
      rw [hb, Bool.true_or] at e
      rw [e]
      clear e hz
      (repeat (first | refine gq_KGH ?_ | (refine ga_KGH ?_; intro _hq)))
      ((try refine aw_ret ?_); refine ret_auto2 (by rfl) (by rfl) (by rfl) (by repeat (first | exact trivial | refine ⟨by first | rfl | omega, ?_⟩)) ?_ (by repeat (first | exact trivial | refine ⟨by rfl, by rfl, ?_⟩)) (by repeat (first | exact trivial | refine ⟨by rfl, by rfl, ?_⟩)); try rfl)
    | false =>
      have hb2 : (l.getD (i : Int).toNat (Cel.no : Int) == x) = false := hb
      rw [hb, Bool.false_or] at e
      have hinv : i + 1 ≤ l.length ∧ hasB (l.drop (i + 1)) x = hasB l x := ⟨h6, e.symm⟩
      clear e hz
      (repeat (first | refine gq_KGH ?_ | (refine ga_KGH ?_; intro _hq)))
      exact ⟨i + 1, hinv, ⟨by rfl, (by repeat (first | exact trivial | refine ⟨by rfl, ?_⟩ | refine ⟨vI_of (by rfl) (by omega), ?_⟩)), (by repeat (first | exact trivial | refine ⟨by rfl, ?_⟩ | refine ⟨vI_of (by rfl) (by omega), ?_⟩))⟩, (by first | omega | (dsimp only; omega))⟩
  · have hd : decide ((i : Int) < (l.length : Int)) = false := by simp; omega
    rw [List.drop_of_length_le h6] at hz
    rw [← hz]
    clear hz
    (repeat (first | refine gq_KGH ?_ | (refine ga_KGH ?_; intro _hq)))
    ((try refine aw_ret ?_); refine ret_auto2 (by rfl) (by rfl) (by rfl) (by repeat (first | exact trivial | refine ⟨by first | rfl | omega, ?_⟩)) ?_ (by repeat (first | exact trivial | refine ⟨by rfl, by rfl, ?_⟩)) (by repeat (first | exact trivial | refine ⟨by rfl, by rfl, ?_⟩)); try rfl)

































theorem k_wvS2 (n w : Int) : Kon Try.prog 103 [vI n, vI w] [] (vB (wvB n w)) [] [] := by
  (refine kon_mk T0ok (fn := Try.f103) (c := Try.f103.body.get rfl) Try.func103 rfl (by rfl) (by rfl) (by rfl) ?_; intro hfit hfe)
  unfold wvB
  cases h1 : btw n 1 8 with
  | false => (repeat (first | refine gq_KGH ?_ | (refine ga_KGH ?_; intro _hq))); ((try refine aw_ret ?_); refine ret_auto2 (by rfl) (by rfl) (by rfl) (by repeat (first | exact trivial | refine ⟨by first | rfl | omega, ?_⟩)) ?_ (by repeat (first | exact trivial | refine ⟨by rfl, by rfl, ?_⟩)) (by repeat (first | exact trivial | refine ⟨by rfl, by rfl, ?_⟩)); try rfl)
  | true =>
    have h1' := btw_t h1
    (repeat (first | refine gq_KGH ?_ | (refine ga_KGH ?_; intro _hq)))
    (subst_vars; ((try refine aw_ret ?_); refine ret_auto2 (by rfl) (by rfl) (by rfl) (by repeat (first | exact trivial | refine ⟨by first | rfl | omega, ?_⟩)) ?_ (by repeat (first | exact trivial | refine ⟨by rfl, by rfl, ?_⟩)) (by repeat (first | exact trivial | refine ⟨by rfl, by rfl, ?_⟩)); try rfl))
    rw [Int.one_mul]; rfl
theorem k_bitS (w a : Int) (h : 0 ≤ w ∧ w < 256 ∧ 0 ≤ a ∧ a ≤ 60) : Kon Try.prog 104 [vI w, vI a] [] (vI (if bt w a then 1 else 0)) [] [] := by
  rw [← sb_mod h.1]
  (refine kon_mk T0ok (fn := Try.f104) (c := Try.f104.body.get rfl) Try.func104 rfl (by rfl) (by rfl) (by rfl) ?_; intro hfit hfe)
  (repeat (first | refine gq_KGH ?_ | (refine ga_KGH ?_; intro _hq)))
  ((try refine aw_ret ?_); refine ret_auto2 (by rfl) (by rfl) (by rfl) (by repeat (first | exact trivial | refine ⟨by first | rfl | omega, ?_⟩)) ?_ (by repeat (first | exact trivial | refine ⟨by rfl, by rfl, ?_⟩)) (by repeat (first | exact trivial | refine ⟨by rfl, by rfl, ?_⟩)); try rfl)
theorem k_turnS (w a : Int) (h : 0 ≤ w ∧ w < 256 ∧ 0 ≤ a ∧ a ≤ 7) : Kon Try.prog 115 [vI w, vI a] [] (vI ((w.toNat ^^^ 2 ^ a.toNat : Nat) : Int)) [] [] := by
  have hp := pow_7 (n := a) (by omega)
  have e := turn_eq (w := w) (a := a) ⟨h.1, h.2.1⟩ (by omega)
  rw [← e]
  have hK := k_bitS w a (by omega)
  cases hb : bt w a <;> rw [hb] at hK <;> clear e
  all_goals
    (refine kon_mk T0ok (fn := Try.f115) (c := Try.f115.body.get rfl) Try.func115 rfl (by rfl) (by rfl) (by rfl) ?_; intro hfit hfe)
    (repeat (first | refine gq_KGH ?_ | (refine ga_KGH ?_; intro _hq)))
    ((try refine aw_ret ?_); refine ret_auto2 (by rfl) (by rfl) (by rfl) (by repeat (first | exact trivial | refine ⟨by first | rfl | omega, ?_⟩)) ?_ (by repeat (first | exact trivial | refine ⟨by rfl, by rfl, ?_⟩)) (by repeat (first | exact trivial | refine ⟨by rfl, by rfl, ?_⟩)); try rfl)
def gsL (n : Int) (L : List Int) : Nat → Nat → Bool
  | 0, _ => true
  | f + 1, i => btw (L.getD i 0) 0 (n - 1) && (!(hasB (L.take i) (L.getD i 0)) && gsL n L f (i + 1))
def gvS (n : Int) (g : Gt) : Bool := gsL n (lns g) (lns g).length 0 && (btw n 1 8 && (decide ((lns g).length > 0) && ((decide ((lns g).length > 1) || g.b == 0) && (decide ((lns g).length > 2) || g.c == 0))))
theorem beqC (a b : Int) : (a == b) = (b == a) := by rw [Bool.eq_iff_iff, beq_iff_eq, beq_iff_eq]; exact eq_comm
theorem gvS_eq (n : Int) (g : Gt) : gvS n g = gok n g := by
  cases hk : btw g.k 0 4 with
  | false =>
    have h := btw_f hk
    have e : lns g = [] := by simp [lns, show ¬ g.k = 0 by omega, show ¬ g.k = 1 by omega, show ¬ g.k = 2 by omega, show ¬ g.k = 3 by omega, show ¬ g.k = 4 by omega]
    unfold gvS
    rw [e, gok_k hk]
    simp
  | true =>
    have hk' := btw_t hk
    cases hn : btw n 1 8 with
    | false => rw [gok_n hn]; unfold gvS; rw [hn]; simp
    | true =>
      rw [gok_nt hk' hn]
      have h' : g.k = 0 ∨ g.k = 1 ∨ g.k = 2 ∨ g.k = 3 ∨ g.k = 4 := by omega
      unfold gvS ntL ntR lns
      rw [hn]
      rcases h' with h' | h' | h' | h' | h' <;> simp [h', gvL1, gvL2, gvL3, z0, gsL, btw8, hasB, Bool.and_assoc, bne, beqC g.a g.b, beqC g.a g.c, beqC g.b g.c]
set_option maxHeartbeats 1000000 in
theorem k_gvSa (n : Int) (g : Gt) (hr : -9223372036854775807 ≤ n ∧ n ≤ 9223372036854775807) : Kon Try.prog 82 [vI n, gV g] [] (vB (gok n g)) [] [] := by
  rw [← gvS_eq]
  have hK := k_linesS g
  have hL : (lns g).length ≤ 3 := by unfold lns; split <;> (try split) <;> (try split) <;> simp
  unfold gvS
  obtain ⟨L, eL⟩ : ∃ L, L = lns g := ⟨_, rfl⟩
  rw [← eL] at hK hL ⊢
  obtain ⟨k, a, b, c⟩ := g
  clear eL
  dsimp only
  (refine kon_mk T0ok (fn := Try.f82) (c := Try.f82.body.get rfl) Try.func82 rfl (by rfl) (by rfl) (by rfl) ?_; intro hfit hfe)
  (repeat refine gc_KGH ?_)
  (repeat (first | refine gs_KGH ?_ | (refine ga_KGH ?_; intro _hq)))
  (repeat refine gc_KGH ?_)
  (repeat (first | refine gs_KGH ?_ | (refine ga_KGH ?_; intro _hq)))
  (refine aw_freeze 128 (by rfl) (by rfl) ?_; refine aw_slot 5 1 (by rfl) (by rfl) (by first | exact trivial | omega | exact cvB (fun w => rfl) | ((repeat (any_goals (first | exact rfl | exact cV_len _ | exact cV_ln rfl (by omega) | exact Cel.pos | omega | exact trivial | refine And.intro ?_ ?_))); first | done | fail) | (simp [*]; first | done | fail)) ?_)
  (repeat (first | refine gq_KGH ?_ | (refine ga_KGH ?_; intro _hq)))
  (refine aw_rd [0, 3, 5] [48] (fun i : Nat => [(6, vI i)]) (fun _ => []) (fun i => i ≤ L.length ∧ gsL n L (L.length - i) i = gsL n L L.length 0) (fun i => L.length - i) 0 (by rfl) (by rfl) ?_ (by rfl) (by repeat (first | exact trivial | refine ⟨by rfl, ?_⟩ | refine ⟨vI_of (by rfl) (by omega), ?_⟩)) (by repeat (first | exact trivial | refine ⟨by rfl, ?_⟩ | refine ⟨vI_of (by rfl) (by omega), ?_⟩)) ?_)
  · exact ⟨Nat.zero_le _, rfl⟩
  rintro i ⟨hi, hz⟩
  rcases Nat.lt_or_ge i L.length with h6 | h6
  · have hd : decide ((i : Int) < (L.length : Int)) = true := by simpa using h6
    rw [show L.length - i = (L.length - (i + 1)) + 1 by omega, gsL] at hz
    replace hz : (btw (L.getD (i : Int).toNat (Cel.no : Int)) 0 (n - 1) && (!(hasB (L.take (i : Int).toNat) (L.getD (i : Int).toNat (Cel.no : Int))) && gsL n L (L.length - (i + 1)) (i + 1))) = gsL n L L.length 0 := hz
    cases hb : btw (L.getD (i : Int).toNat (Cel.no : Int)) 0 (n - 1) with
    | false =>
      rw [hb, Bool.false_and] at hz
      rw [← hz, Bool.false_and]
      clear hz
      (repeat (first | refine gq_KGH ?_ | (refine ga_KGH ?_; intro _hq) | refine gd_KGH ?_))
      ((try refine aw_ret ?_); refine ret_auto2 (by rfl) (by rfl) (by rfl) (by repeat (first | exact trivial | refine ⟨by first | rfl | omega, ?_⟩)) ?_ (by repeat (first | exact trivial | refine ⟨by rfl, by rfl, ?_⟩)) (by repeat (first | exact trivial | refine ⟨by rfl, by rfl, ?_⟩)); try rfl)
    | true =>
      rw [hb, Bool.true_and] at hz
      have hK2 : Kon Try.prog 70 [roA (L.take (i : Int).toNat), vI (L.getD (i : Int).toNat (Cel.no : Int))] [] (vB (hasB (L.take (i : Int).toNat) (L.getD (i : Int).toNat (Cel.no : Int)))) [] [] := k_has _ _ (by simp; omega)
      cases hv : hasB (L.take (i : Int).toNat) (L.getD (i : Int).toNat (Cel.no : Int)) with
      | true =>
        rw [hv, Bool.not_true, Bool.false_and] at hz
        rw [← hz, Bool.false_and]
        clear hz
        (repeat (first | refine gq_KGH ?_ | (refine ga_KGH ?_; intro _hq) | refine gd_KGH ?_))
        ((try refine aw_ret ?_); refine ret_auto2 (by rfl) (by rfl) (by rfl) (by repeat (first | exact trivial | refine ⟨by first | rfl | omega, ?_⟩)) ?_ (by repeat (first | exact trivial | refine ⟨by rfl, by rfl, ?_⟩)) (by repeat (first | exact trivial | refine ⟨by rfl, by rfl, ?_⟩)); try rfl)
      | false =>
        rw [hv, Bool.not_false, Bool.true_and] at hz
        have hinv : i + 1 ≤ L.length ∧ gsL n L (L.length - (i + 1)) (i + 1) = gsL n L L.length 0 := ⟨h6, hz⟩
        clear hz
        (repeat (first | refine gq_KGH ?_ | (refine ga_KGH ?_; intro _hq) | refine gd_KGH ?_))
        exact ⟨i + 1, hinv, ⟨by rfl, (by repeat (first | exact trivial | refine ⟨by rfl, ?_⟩ | refine ⟨vI_of (by rfl) (by omega), ?_⟩)), (by repeat (first | exact trivial | refine ⟨by rfl, ?_⟩ | refine ⟨vI_of (by rfl) (by omega), ?_⟩))⟩, (by first | omega | (dsimp only; omega))⟩
  · have hd : decide ((i : Int) < (L.length : Int)) = false := by simp; omega
    have e0 : L.length - i = 0 := by omega
    rw [e0, gsL] at hz
    rw [← hz, Bool.true_and]
    clear hz e0
    cases hn : btw n 1 8 with
    | false => 
      (repeat (first | refine gq_KGH ?_ | (refine ga_KGH ?_; intro _hq) | refine gd_KGH ?_))
      ((try refine aw_ret ?_); refine ret_auto2 (by rfl) (by rfl) (by rfl) (by repeat (first | exact trivial | refine ⟨by first | rfl | omega, ?_⟩)) ?_ (by repeat (first | exact trivial | refine ⟨by rfl, by rfl, ?_⟩)) (by repeat (first | exact trivial | refine ⟨by rfl, by rfl, ?_⟩)); try rfl)
    | true =>
      rw [Bool.true_and]
      cases h1 : decide ((L.length : Int) > 0) with
      | false =>
        have e : decide (L.length > 0) = false := by simpa using h1
        rw [e, Bool.false_and]
        (repeat (first | refine gq_KGH ?_ | (refine ga_KGH ?_; intro _hq) | refine gd_KGH ?_))
        ((try refine aw_ret ?_); refine ret_auto2 (by rfl) (by rfl) (by rfl) (by repeat (first | exact trivial | refine ⟨by first | rfl | omega, ?_⟩)) ?_ (by repeat (first | exact trivial | refine ⟨by rfl, by rfl, ?_⟩)) (by repeat (first | exact trivial | refine ⟨by rfl, by rfl, ?_⟩)); try rfl)
      | true =>
        have e : decide (L.length > 0) = true := by simpa using h1
        rw [e, Bool.true_and]
        clear e
        have e2 : decide ((L.length : Int) > 1) = decide (L.length > 1) := decide_eq_decide.2 (by omega)
        have e3 : decide ((L.length : Int) > 2) = decide (L.length > 2) := decide_eq_decide.2 (by omega)
        rw [← e2, ← e3]
        clear e2 e3
        cases h2 : decide ((L.length : Int) > 1) <;> cases h3 : decide ((L.length : Int) > 2) <;> cases h4 : (b == 0)
        all_goals
          (repeat (first | refine gq_KGH ?_ | (refine ga_KGH ?_; intro _hq) | refine gd_KGH ?_))
          ((try refine aw_ret ?_); refine ret_auto2 (by rfl) (by rfl) (by rfl) (by repeat (first | exact trivial | refine ⟨by first | rfl | omega, ?_⟩)) ?_ (by repeat (first | exact trivial | refine ⟨by rfl, by rfl, ?_⟩)) (by repeat (first | exact trivial | refine ⟨by rfl, by rfl, ?_⟩)); try rfl)
end Go.Proofs.Ytdihmpclbgbgpaa

/- The reference's GateValid at the least number of lines, and at all. -/
namespace Go.Proofs.Ytdihmpclbgbgpaa
set_option linter.unusedVariables false
set_option linter.unusedSimpArgs false
set_option maxRecDepth 20000
open Go.RowKit
attribute [local irreducible] runA runX AW
theorem gq_KGM {H G : Prop} (k : H) (h : Hid H → G := by (intro hh; (first | (first | ((first | refine r_none ?_ | refine r_gt (by rfl) (by rfl) (by first | rfl | assumption | omega | (simp only [*, Bool.not_false, Bool.not_true]; first | done | fail) | (simp [*]; first | done | fail)) (by rfl) ?_ | refine r_gf (by rfl) (by rfl) (by first | rfl | assumption | omega | (simp only [*, Bool.not_false, Bool.not_true]; first | done | fail) | (simp [*]; first | done | fail)) (by rfl) ?_); (first | (refine r_pure2 (o := .sub) (r := .int .i64 9223372036854775807) (by rfl) (by rfl) (fun w => by kernel_rfl) (by rfl) (by rfl) ?_) | ((first | (refine z_op (by rfl) ?_; first | refine z_ok ?_ ?_ | refine z_ex ?_ (by first | exact ft_raw rfl rfl | ((first | refine ft_rp rfl rfl rfl ?_ | refine ft_row rfl rfl rfl ?_ | refine ft_rpF rfl rfl rfl ?_ | refine ft_rowF rfl rfl rfl ?_ | refine up_row rfl rfl ?_ | refine up_rowF rfl rfl rfl ?_ | refine ct_0 rfl ?_ | refine ct_r rfl rfl ?_ | refine ct_c rfl rfl rfl ?_ | refine cu_all rfl ?_ | refine cu_to rfl ?_ | refine cu_from rfl ?_ | refine cu_p rfl ?_ | fail); (first | omega | (simp only [List.length_append, List.length_replicate, List.length_cons, List.length_nil, List.length_set, List.length_take, List.length_drop, true_and]; omega))) | exact up_raw rfl | exact pk_t (by first | rfl | assumption | omega | (simp only [*, Bool.not_false, Bool.not_true]; first | done | fail) | (simp [*]; first | done | fail)) rfl | exact pk_f (by first | rfl | assumption | omega | (simp only [*, Bool.not_false, Bool.not_true]; first | done | fail) | (simp [*]; first | done | fail)) rfl | fail | exact rw_raw | exact pu_cv (fun w => rfl) (by omega) | exact pu_of (fun w => rfl) rfl | exact be_of (fun w => rfl) | exact nc_of (fun _ _ _ _ => rfl) rfl | exact bu_of (fun w => rfl) rfl | fail) ?_) | ((first | refine q_callE wsT wsZ (by rfl) ?_ | refine q_callVE wsT (by rfl) (by rfl) ?_); refine ⟨_, _, _, (by first | assumption | exact k_l1In _ _ _ | exact k_linesS _), _, by rfl, ?_, ?_⟩)); focus (first | exact trivial | fail | exact rfl | (first | omega | (simp only [List.length_append, List.length_replicate, List.length_cons, List.length_nil, List.length_set, List.length_take, List.length_drop, true_and]; omega)) | exact cvB (fun w => rfl) | ((repeat' (first | exact rfl | exact cV_len _ | exact cV_ln rfl (by omega) | exact Cel.pos | omega | exact trivial | refine And.intro ?_ ?_)); done) | (simp [*]; done) | (simp; omega))) | fail)) | refine r_nt (by rfl) (by rfl) (by first | rfl | assumption | omega | (simp only [*, Bool.not_false, Bool.not_true]; first | done | fail) | (simp [*]; first | done | fail)) (by rfl) ?_ | refine r_nf (by rfl) (by rfl) (by first | rfl | assumption | omega | (simp only [*, Bool.not_false, Bool.not_true]; first | done | fail) | (simp [*]; first | done | fail)) (by rfl) ?_ | refine r_gu (by rfl) (by rfl) (by rfl) ?_ | refine r_nil ?_) | (first | refine aw_seq ?_ | refine aw_ct (by rfl) (by first | rfl | assumption | omega | (simp only [*, Bool.not_false, Bool.not_true]; first | done | fail) | (simp [*]; first | done | fail)) ?_ | refine aw_cf (by rfl) (by first | rfl | assumption | omega | (simp only [*, Bool.not_false, Bool.not_true]; first | done | fail) | (simp [*]; first | done | fail)) ?_ | refine aw_block ?_ | refine aw_region T0ok cfU_ok (by rfl) ?_ | refine aw_skip ?_ | refine aw_exit ?_ | refine ra_step ?_)); (repeat (first | (first | ((first | refine r_none ?_ | refine r_gt (by rfl) (by rfl) (by first | rfl | assumption | omega | (simp only [*, Bool.not_false, Bool.not_true]; first | done | fail) | (simp [*]; first | done | fail)) (by rfl) ?_ | refine r_gf (by rfl) (by rfl) (by first | rfl | assumption | omega | (simp only [*, Bool.not_false, Bool.not_true]; first | done | fail) | (simp [*]; first | done | fail)) (by rfl) ?_); (first | (refine r_pure2 (o := .sub) (r := .int .i64 9223372036854775807) (by rfl) (by rfl) (fun w => by kernel_rfl) (by rfl) (by rfl) ?_) | ((first | (refine z_op (by rfl) ?_; first | refine z_ok ?_ ?_ | refine z_ex ?_ (by first | exact ft_raw rfl rfl | ((first | refine ft_rp rfl rfl rfl ?_ | refine ft_row rfl rfl rfl ?_ | refine ft_rpF rfl rfl rfl ?_ | refine ft_rowF rfl rfl rfl ?_ | refine up_row rfl rfl ?_ | refine up_rowF rfl rfl rfl ?_ | refine ct_0 rfl ?_ | refine ct_r rfl rfl ?_ | refine ct_c rfl rfl rfl ?_ | refine cu_all rfl ?_ | refine cu_to rfl ?_ | refine cu_from rfl ?_ | refine cu_p rfl ?_ | fail); (first | omega | (simp only [List.length_append, List.length_replicate, List.length_cons, List.length_nil, List.length_set, List.length_take, List.length_drop, true_and]; omega))) | exact up_raw rfl | exact pk_t (by first | rfl | assumption | omega | (simp only [*, Bool.not_false, Bool.not_true]; first | done | fail) | (simp [*]; first | done | fail)) rfl | exact pk_f (by first | rfl | assumption | omega | (simp only [*, Bool.not_false, Bool.not_true]; first | done | fail) | (simp [*]; first | done | fail)) rfl | fail | exact rw_raw | exact pu_cv (fun w => rfl) (by omega) | exact pu_of (fun w => rfl) rfl | exact be_of (fun w => rfl) | exact nc_of (fun _ _ _ _ => rfl) rfl | exact bu_of (fun w => rfl) rfl | fail) ?_) | ((first | refine q_callE wsT wsZ (by rfl) ?_ | refine q_callVE wsT (by rfl) (by rfl) ?_); refine ⟨_, _, _, (by first | assumption | exact k_l1In _ _ _ | exact k_linesS _), _, by rfl, ?_, ?_⟩)); focus (first | exact trivial | fail | exact rfl | (first | omega | (simp only [List.length_append, List.length_replicate, List.length_cons, List.length_nil, List.length_set, List.length_take, List.length_drop, true_and]; omega)) | exact cvB (fun w => rfl) | ((repeat' (first | exact rfl | exact cV_len _ | exact cV_ln rfl (by omega) | exact Cel.pos | omega | exact trivial | refine And.intro ?_ ?_)); done) | (simp [*]; done) | (simp; omega))) | fail)) | refine r_nt (by rfl) (by rfl) (by first | rfl | assumption | omega | (simp only [*, Bool.not_false, Bool.not_true]; first | done | fail) | (simp [*]; first | done | fail)) (by rfl) ?_ | refine r_nf (by rfl) (by rfl) (by first | rfl | assumption | omega | (simp only [*, Bool.not_false, Bool.not_true]; first | done | fail) | (simp [*]; first | done | fail)) (by rfl) ?_ | refine r_gu (by rfl) (by rfl) (by rfl) ?_ | refine r_nil ?_) | (first | refine aw_seq ?_ | refine aw_ct (by rfl) (by first | rfl | assumption | omega | (simp only [*, Bool.not_false, Bool.not_true]; first | done | fail) | (simp [*]; first | done | fail)) ?_ | refine aw_cf (by rfl) (by first | rfl | assumption | omega | (simp only [*, Bool.not_false, Bool.not_true]; first | done | fail) | (simp [*]; first | done | fail)) ?_ | refine aw_block ?_ | refine aw_region T0ok cfU_ok (by rfl) ?_ | refine aw_skip ?_ | refine aw_exit ?_ | refine ra_step ?_))); exact hh.out)) : G := h ⟨k⟩
theorem ga_KGM {H G : Prop} (k : H) (h : Hid H → G := by (intro hh; (first | refine r_none ?_ | refine r_gt (by rfl) (by rfl) (by first | rfl | assumption | omega | (simp only [*, Bool.not_false, Bool.not_true]; first | done | fail) | (simp [*]; first | done | fail)) (by rfl) ?_ | refine r_gf (by rfl) (by rfl) (by first | rfl | assumption | omega | (simp only [*, Bool.not_false, Bool.not_true]; first | done | fail) | (simp [*]; first | done | fail)) (by rfl) ?_); refine z_op (by rfl) ?_; refine z_alV ?_ hh.out; focus (first | exact trivial | fail | exact rfl | (first | omega | (simp only [List.length_append, List.length_replicate, List.length_cons, List.length_nil, List.length_set, List.length_take, List.length_drop, true_and]; omega)) | exact cvB (fun w => rfl) | ((repeat' (first | exact rfl | exact cV_len _ | exact cV_ln rfl (by omega) | exact Cel.pos | omega | exact trivial | refine And.intro ?_ ?_)); done) | (simp [*]; done) | (simp; omega)))) : G := h ⟨k⟩
theorem gs_KGM {H G : Prop} (k : H) (h : Hid H → G := by (intro hh; (first | ((first | refine r_none ?_ | refine r_gt (by rfl) (by rfl) (by first | rfl | assumption | omega | (simp only [*, Bool.not_false, Bool.not_true]; first | done | fail) | (simp [*]; first | done | fail)) (by rfl) ?_ | refine r_gf (by rfl) (by rfl) (by first | rfl | assumption | omega | (simp only [*, Bool.not_false, Bool.not_true]; first | done | fail) | (simp [*]; first | done | fail)) (by rfl) ?_); (first | (refine r_pure2 (o := .sub) (r := .int .i64 9223372036854775807) (by rfl) (by rfl) (fun w => by kernel_rfl) (by rfl) (by rfl) ?_) | ((first | (refine z_op (by rfl) ?_; first | refine z_ok ?_ ?_ | refine z_ex ?_ (by first | exact ft_raw rfl rfl | ((first | refine ft_rp rfl rfl rfl ?_ | refine ft_row rfl rfl rfl ?_ | refine ft_rpF rfl rfl rfl ?_ | refine ft_rowF rfl rfl rfl ?_ | refine up_row rfl rfl ?_ | refine up_rowF rfl rfl rfl ?_ | refine ct_0 rfl ?_ | refine ct_r rfl rfl ?_ | refine ct_c rfl rfl rfl ?_ | refine cu_all rfl ?_ | refine cu_to rfl ?_ | refine cu_from rfl ?_ | refine cu_p rfl ?_ | fail); (first | omega | (simp only [List.length_append, List.length_replicate, List.length_cons, List.length_nil, List.length_set, List.length_take, List.length_drop, true_and]; omega))) | exact up_raw rfl | exact pk_t (by first | rfl | assumption | omega | (simp only [*, Bool.not_false, Bool.not_true]; first | done | fail) | (simp [*]; first | done | fail)) rfl | exact pk_f (by first | rfl | assumption | omega | (simp only [*, Bool.not_false, Bool.not_true]; first | done | fail) | (simp [*]; first | done | fail)) rfl | fail | exact rw_raw | exact pu_cv (fun w => rfl) (by omega) | exact pu_of (fun w => rfl) rfl | exact be_of (fun w => rfl) | exact nc_of (fun _ _ _ _ => rfl) rfl | exact bu_of (fun w => rfl) rfl | fail) ?_) | ((first | refine q_callE wsT wsZ (by rfl) ?_ | refine q_callVE wsT (by rfl) (by rfl) ?_); refine ⟨_, _, _, (by first | assumption | exact k_l1In _ _ _ | exact k_linesS _), _, by rfl, ?_, ?_⟩)); focus (first | exact trivial | fail | exact rfl | (first | omega | (simp only [List.length_append, List.length_replicate, List.length_cons, List.length_nil, List.length_set, List.length_take, List.length_drop, true_and]; omega)) | exact cvB (fun w => rfl) | ((repeat' (first | exact rfl | exact cV_len _ | exact cV_ln rfl (by omega) | exact Cel.pos | omega | exact trivial | refine And.intro ?_ ?_)); done) | (simp [*]; done) | (simp; omega))) | fail)) | refine r_nt (by rfl) (by rfl) (by first | rfl | assumption | omega | (simp only [*, Bool.not_false, Bool.not_true]; first | done | fail) | (simp [*]; first | done | fail)) (by rfl) ?_ | refine r_nf (by rfl) (by rfl) (by first | rfl | assumption | omega | (simp only [*, Bool.not_false, Bool.not_true]; first | done | fail) | (simp [*]; first | done | fail)) (by rfl) ?_ | refine r_gu (by rfl) (by rfl) (by rfl) ?_ | refine r_nil ?_); (repeat (first | ((first | refine r_none ?_ | refine r_gt (by rfl) (by rfl) (by first | rfl | assumption | omega | (simp only [*, Bool.not_false, Bool.not_true]; first | done | fail) | (simp [*]; first | done | fail)) (by rfl) ?_ | refine r_gf (by rfl) (by rfl) (by first | rfl | assumption | omega | (simp only [*, Bool.not_false, Bool.not_true]; first | done | fail) | (simp [*]; first | done | fail)) (by rfl) ?_); (first | (refine r_pure2 (o := .sub) (r := .int .i64 9223372036854775807) (by rfl) (by rfl) (fun w => by kernel_rfl) (by rfl) (by rfl) ?_) | ((first | (refine z_op (by rfl) ?_; first | refine z_ok ?_ ?_ | refine z_ex ?_ (by first | exact ft_raw rfl rfl | ((first | refine ft_rp rfl rfl rfl ?_ | refine ft_row rfl rfl rfl ?_ | refine ft_rpF rfl rfl rfl ?_ | refine ft_rowF rfl rfl rfl ?_ | refine up_row rfl rfl ?_ | refine up_rowF rfl rfl rfl ?_ | refine ct_0 rfl ?_ | refine ct_r rfl rfl ?_ | refine ct_c rfl rfl rfl ?_ | refine cu_all rfl ?_ | refine cu_to rfl ?_ | refine cu_from rfl ?_ | refine cu_p rfl ?_ | fail); (first | omega | (simp only [List.length_append, List.length_replicate, List.length_cons, List.length_nil, List.length_set, List.length_take, List.length_drop, true_and]; omega))) | exact up_raw rfl | exact pk_t (by first | rfl | assumption | omega | (simp only [*, Bool.not_false, Bool.not_true]; first | done | fail) | (simp [*]; first | done | fail)) rfl | exact pk_f (by first | rfl | assumption | omega | (simp only [*, Bool.not_false, Bool.not_true]; first | done | fail) | (simp [*]; first | done | fail)) rfl | fail | exact rw_raw | exact pu_cv (fun w => rfl) (by omega) | exact pu_of (fun w => rfl) rfl | exact be_of (fun w => rfl) | exact nc_of (fun _ _ _ _ => rfl) rfl | exact bu_of (fun w => rfl) rfl | fail) ?_) | ((first | refine q_callE wsT wsZ (by rfl) ?_ | refine q_callVE wsT (by rfl) (by rfl) ?_); refine ⟨_, _, _, (by first | assumption | exact k_l1In _ _ _ | exact k_linesS _), _, by rfl, ?_, ?_⟩)); focus (first | exact trivial | fail | exact rfl | (first | omega | (simp only [List.length_append, List.length_replicate, List.length_cons, List.length_nil, List.length_set, List.length_take, List.length_drop, true_and]; omega)) | exact cvB (fun w => rfl) | ((repeat' (first | exact rfl | exact cV_len _ | exact cV_ln rfl (by omega) | exact Cel.pos | omega | exact trivial | refine And.intro ?_ ?_)); done) | (simp [*]; done) | (simp; omega))) | fail)) | refine r_nt (by rfl) (by rfl) (by first | rfl | assumption | omega | (simp only [*, Bool.not_false, Bool.not_true]; first | done | fail) | (simp [*]; first | done | fail)) (by rfl) ?_ | refine r_nf (by rfl) (by rfl) (by first | rfl | assumption | omega | (simp only [*, Bool.not_false, Bool.not_true]; first | done | fail) | (simp [*]; first | done | fail)) (by rfl) ?_ | refine r_gu (by rfl) (by rfl) (by rfl) ?_ | refine r_nil ?_)); exact hh.out)) : G := h ⟨k⟩
theorem gc_KGM {H G : Prop} (k : H) (h : Hid H → G := by (intro hh; (first | refine aw_seq ?_ | refine aw_ct (by rfl) (by first | rfl | assumption | omega | (simp only [*, Bool.not_false, Bool.not_true]; first | done | fail) | (simp [*]; first | done | fail)) ?_ | refine aw_cf (by rfl) (by first | rfl | assumption | omega | (simp only [*, Bool.not_false, Bool.not_true]; first | done | fail) | (simp [*]; first | done | fail)) ?_ | refine aw_block ?_ | refine aw_region T0ok cfU_ok (by rfl) ?_ | refine aw_skip ?_ | refine aw_exit ?_ | refine ra_step ?_); (repeat (first | refine aw_seq ?_ | refine aw_ct (by rfl) (by first | rfl | assumption | omega | (simp only [*, Bool.not_false, Bool.not_true]; first | done | fail) | (simp [*]; first | done | fail)) ?_ | refine aw_cf (by rfl) (by first | rfl | assumption | omega | (simp only [*, Bool.not_false, Bool.not_true]; first | done | fail) | (simp [*]; first | done | fail)) ?_ | refine aw_block ?_ | refine aw_region T0ok cfU_ok (by rfl) ?_ | refine aw_skip ?_ | refine aw_exit ?_ | refine ra_step ?_)); exact hh.out)) : G := h ⟨k⟩
theorem gd_KGM {H G : Prop} (k : H) (h : Hid H → G := by (intro hh; (refine aw_draw mixed T0ok cfU_ok [] (by rfl) (by kernel_rfl) ?_); exact hh.out)) : G := h ⟨k⟩
set_option maxHeartbeats 1000000 in
theorem k_gvSm (g : Gt) : Kon Try.prog 82 [vI (-9223372036854775808), gV g] [] (vB false) [] [] := by
  have hK := k_linesS g
  have hL : (lns g).length ≤ 3 := by unfold lns; split <;> (try split) <;> (try split) <;> simp
  obtain ⟨L, eL⟩ : ∃ L, L = lns g := ⟨_, rfl⟩
  rw [← eL] at hK hL
  obtain ⟨k, a, b, c⟩ := g
  clear eL
  (refine kon_mk T0ok (fn := Try.f82) (c := Try.f82.body.get rfl) Try.func82 rfl (by rfl) (by rfl) (by rfl) ?_; intro hfit hfe)
  (repeat refine gc_KGM ?_)
  (repeat (first | refine gs_KGM ?_ | (refine ga_KGM ?_; intro _hq)))
  (repeat refine gc_KGM ?_)
  (repeat (first | refine gs_KGM ?_ | (refine ga_KGM ?_; intro _hq)))
  (refine aw_freeze 128 (by rfl) (by rfl) ?_; refine aw_slot 5 1 (by rfl) (by rfl) (by first | exact trivial | omega | exact cvB (fun w => rfl) | ((repeat (any_goals (first | exact rfl | exact cV_len _ | exact cV_ln rfl (by omega) | exact Cel.pos | omega | exact trivial | refine And.intro ?_ ?_))); first | done | fail) | (simp [*]; first | done | fail)) ?_)
  (repeat (first | refine gq_KGM ?_ | (refine ga_KGM ?_; intro _hq)))
  (refine aw_rd [0, 3, 5] [48] (fun i : Nat => [(6, vI i)]) (fun _ => []) (fun i => i ≤ L.length) (fun i => L.length - i) 0 (by rfl) (by rfl) ?_ (by rfl) (by repeat (first | exact trivial | refine ⟨by rfl, ?_⟩ | refine ⟨vI_of (by rfl) (by omega), ?_⟩)) (by repeat (first | exact trivial | refine ⟨by rfl, ?_⟩ | refine ⟨vI_of (by rfl) (by omega), ?_⟩)) ?_)
  · exact Nat.zero_le _
  rintro i hi
  rcases Nat.lt_or_ge i L.length with h6 | h6
  · have hd : decide ((i : Int) < (L.length : Int)) = true := by simpa using h6
    cases hb : btw (L.getD (i : Int).toNat (Cel.no : Int)) 0 9223372036854775807 with
    | false =>
      (repeat (first | refine gq_KGM ?_ | (refine ga_KGM ?_; intro _hq) | refine gd_KGM ?_))
      ((try refine aw_ret ?_); refine ret_auto2 (by rfl) (by rfl) (by rfl) (by repeat (first | exact trivial | refine ⟨by first | rfl | omega, ?_⟩)) ?_ (by repeat (first | exact trivial | refine ⟨by rfl, by rfl, ?_⟩)) (by repeat (first | exact trivial | refine ⟨by rfl, by rfl, ?_⟩)); try rfl)
    | true =>
      have hK2 : Kon Try.prog 70 [roA (L.take (i : Int).toNat), vI (L.getD (i : Int).toNat (Cel.no : Int))] [] (vB (hasB (L.take (i : Int).toNat) (L.getD (i : Int).toNat (Cel.no : Int)))) [] [] := k_has _ _ (by simp; omega)
      cases hv : hasB (L.take (i : Int).toNat) (L.getD (i : Int).toNat (Cel.no : Int)) with
      | true =>
        (repeat (first | refine gq_KGM ?_ | (refine ga_KGM ?_; intro _hq) | refine gd_KGM ?_))
        ((try refine aw_ret ?_); refine ret_auto2 (by rfl) (by rfl) (by rfl) (by repeat (first | exact trivial | refine ⟨by first | rfl | omega, ?_⟩)) ?_ (by repeat (first | exact trivial | refine ⟨by rfl, by rfl, ?_⟩)) (by repeat (first | exact trivial | refine ⟨by rfl, by rfl, ?_⟩)); try rfl)
      | false =>
        (repeat (first | refine gq_KGM ?_ | (refine ga_KGM ?_; intro _hq) | refine gd_KGM ?_))
        exact ⟨i + 1, h6, ⟨by rfl, (by repeat (first | exact trivial | refine ⟨by rfl, ?_⟩ | refine ⟨vI_of (by rfl) (by omega), ?_⟩)), (by repeat (first | exact trivial | refine ⟨by rfl, ?_⟩ | refine ⟨vI_of (by rfl) (by omega), ?_⟩))⟩, (by first | omega | (dsimp only; omega))⟩
  · have hd : decide ((i : Int) < (L.length : Int)) = false := by simp; omega
    have hn : btw (-9223372036854775808) 1 8 = false := rfl
    (repeat (first | refine gq_KGM ?_ | (refine ga_KGM ?_; intro _hq) | refine gd_KGM ?_))
    ((try refine aw_ret ?_); refine ret_auto2 (by rfl) (by rfl) (by rfl) (by repeat (first | exact trivial | refine ⟨by first | rfl | omega, ?_⟩)) ?_ (by repeat (first | exact trivial | refine ⟨by rfl, by rfl, ?_⟩)) (by repeat (first | exact trivial | refine ⟨by rfl, by rfl, ?_⟩)); try rfl)
theorem k_gvS (n : Int) (g : Gt) (hr : -9223372036854775808 ≤ n ∧ n ≤ 9223372036854775807) : Kon Try.prog 82 [vI n, gV g] [] (vB (gok n g)) [] [] := by
  by_cases h : n = -9223372036854775808
  · subst h
    rw [gok_n rfl]
    exact k_gvSm g
  · exact k_gvSa n g (by omega)
end Go.Proofs.Ytdihmpclbgbgpaa

/- What a gate makes of a word: impl's run. -/
namespace Go.Proofs.Ytdihmpclbgbgpaa
set_option linter.unusedVariables false
set_option linter.unusedSimpArgs false
set_option maxRecDepth 20000
open Go.RowKit
attribute [local irreducible] runA runX AW
theorem gq_KGF {H G : Prop} (k : H) (h : Hid H → G := by (intro hh; (first | (first | ((first | refine r_none ?_ | refine r_gt (by rfl) (by rfl) (by first | rfl | assumption | omega | (simp only [*, Bool.not_false, Bool.not_true]; first | done | fail) | (simp [*]; first | done | fail)) (by rfl) ?_ | refine r_gf (by rfl) (by rfl) (by first | rfl | assumption | omega | (simp only [*, Bool.not_false, Bool.not_true]; first | done | fail) | (simp [*]; first | done | fail)) (by rfl) ?_); (first | fail | ((first | (refine z_op (by rfl) ?_; first | refine z_ok ?_ ?_ | refine z_ex ?_ (by first | exact ft_raw rfl rfl | ((first | refine ft_rp rfl rfl rfl ?_ | refine ft_row rfl rfl rfl ?_ | refine ft_rpF rfl rfl rfl ?_ | refine ft_rowF rfl rfl rfl ?_ | refine up_row rfl rfl ?_ | refine up_rowF rfl rfl rfl ?_ | refine ct_0 rfl ?_ | refine ct_r rfl rfl ?_ | refine ct_c rfl rfl rfl ?_ | refine cu_all rfl ?_ | refine cu_to rfl ?_ | refine cu_from rfl ?_ | refine cu_p rfl ?_ | fail); (first | omega | (simp only [List.length_append, List.length_replicate, List.length_cons, List.length_nil, List.length_set, List.length_take, List.length_drop, true_and]; omega))) | exact up_raw rfl | exact pk_t (by first | rfl | assumption | omega | (simp only [*, Bool.not_false, Bool.not_true]; first | done | fail) | (simp [*]; first | done | fail)) rfl | exact pk_f (by first | rfl | assumption | omega | (simp only [*, Bool.not_false, Bool.not_true]; first | done | fail) | (simp [*]; first | done | fail)) rfl | fail | exact rw_raw | exact pu_cv (fun w => rfl) (by omega) | exact pu_of (fun w => rfl) rfl | exact be_of (fun w => rfl) | exact nc_of (fun _ _ _ _ => rfl) rfl | exact bu_of (fun w => rfl) rfl | fail) ?_) | ((first | refine q_callE wsT wsZ (by rfl) ?_ | refine q_callVE wsT (by rfl) (by rfl) ?_); refine ⟨_, _, _, (by first | assumption), _, by rfl, ?_, ?_⟩)); focus (first | exact trivial | fail | exact rfl | (first | omega | (simp only [List.length_append, List.length_replicate, List.length_cons, List.length_nil, List.length_set, List.length_take, List.length_drop, true_and]; omega)) | exact cvB (fun w => rfl) | ((repeat' (first | exact rfl | exact cV_len _ | exact cV_ln rfl (by omega) | exact Cel.pos | omega | exact trivial | refine And.intro ?_ ?_)); done) | (simp [*]; done) | (simp; omega))) | fail)) | refine r_nt (by rfl) (by rfl) (by first | rfl | assumption | omega | (simp only [*, Bool.not_false, Bool.not_true]; first | done | fail) | (simp [*]; first | done | fail)) (by rfl) ?_ | refine r_nf (by rfl) (by rfl) (by first | rfl | assumption | omega | (simp only [*, Bool.not_false, Bool.not_true]; first | done | fail) | (simp [*]; first | done | fail)) (by rfl) ?_ | refine r_gu (by rfl) (by rfl) (by rfl) ?_ | refine r_nil ?_) | (first | refine aw_seq ?_ | refine aw_ct (by rfl) (by first | rfl | assumption | omega | (simp only [*, Bool.not_false, Bool.not_true]; first | done | fail) | (simp [*]; first | done | fail)) ?_ | refine aw_cf (by rfl) (by first | rfl | assumption | omega | (simp only [*, Bool.not_false, Bool.not_true]; first | done | fail) | (simp [*]; first | done | fail)) ?_ | refine aw_block ?_ | refine aw_region T0ok cfU_ok (by rfl) ?_ | refine aw_skip ?_ | refine aw_exit ?_ | refine ra_step ?_)); (repeat (first | (first | ((first | refine r_none ?_ | refine r_gt (by rfl) (by rfl) (by first | rfl | assumption | omega | (simp only [*, Bool.not_false, Bool.not_true]; first | done | fail) | (simp [*]; first | done | fail)) (by rfl) ?_ | refine r_gf (by rfl) (by rfl) (by first | rfl | assumption | omega | (simp only [*, Bool.not_false, Bool.not_true]; first | done | fail) | (simp [*]; first | done | fail)) (by rfl) ?_); (first | fail | ((first | (refine z_op (by rfl) ?_; first | refine z_ok ?_ ?_ | refine z_ex ?_ (by first | exact ft_raw rfl rfl | ((first | refine ft_rp rfl rfl rfl ?_ | refine ft_row rfl rfl rfl ?_ | refine ft_rpF rfl rfl rfl ?_ | refine ft_rowF rfl rfl rfl ?_ | refine up_row rfl rfl ?_ | refine up_rowF rfl rfl rfl ?_ | refine ct_0 rfl ?_ | refine ct_r rfl rfl ?_ | refine ct_c rfl rfl rfl ?_ | refine cu_all rfl ?_ | refine cu_to rfl ?_ | refine cu_from rfl ?_ | refine cu_p rfl ?_ | fail); (first | omega | (simp only [List.length_append, List.length_replicate, List.length_cons, List.length_nil, List.length_set, List.length_take, List.length_drop, true_and]; omega))) | exact up_raw rfl | exact pk_t (by first | rfl | assumption | omega | (simp only [*, Bool.not_false, Bool.not_true]; first | done | fail) | (simp [*]; first | done | fail)) rfl | exact pk_f (by first | rfl | assumption | omega | (simp only [*, Bool.not_false, Bool.not_true]; first | done | fail) | (simp [*]; first | done | fail)) rfl | fail | exact rw_raw | exact pu_cv (fun w => rfl) (by omega) | exact pu_of (fun w => rfl) rfl | exact be_of (fun w => rfl) | exact nc_of (fun _ _ _ _ => rfl) rfl | exact bu_of (fun w => rfl) rfl | fail) ?_) | ((first | refine q_callE wsT wsZ (by rfl) ?_ | refine q_callVE wsT (by rfl) (by rfl) ?_); refine ⟨_, _, _, (by first | assumption), _, by rfl, ?_, ?_⟩)); focus (first | exact trivial | fail | exact rfl | (first | omega | (simp only [List.length_append, List.length_replicate, List.length_cons, List.length_nil, List.length_set, List.length_take, List.length_drop, true_and]; omega)) | exact cvB (fun w => rfl) | ((repeat' (first | exact rfl | exact cV_len _ | exact cV_ln rfl (by omega) | exact Cel.pos | omega | exact trivial | refine And.intro ?_ ?_)); done) | (simp [*]; done) | (simp; omega))) | fail)) | refine r_nt (by rfl) (by rfl) (by first | rfl | assumption | omega | (simp only [*, Bool.not_false, Bool.not_true]; first | done | fail) | (simp [*]; first | done | fail)) (by rfl) ?_ | refine r_nf (by rfl) (by rfl) (by first | rfl | assumption | omega | (simp only [*, Bool.not_false, Bool.not_true]; first | done | fail) | (simp [*]; first | done | fail)) (by rfl) ?_ | refine r_gu (by rfl) (by rfl) (by rfl) ?_ | refine r_nil ?_) | (first | refine aw_seq ?_ | refine aw_ct (by rfl) (by first | rfl | assumption | omega | (simp only [*, Bool.not_false, Bool.not_true]; first | done | fail) | (simp [*]; first | done | fail)) ?_ | refine aw_cf (by rfl) (by first | rfl | assumption | omega | (simp only [*, Bool.not_false, Bool.not_true]; first | done | fail) | (simp [*]; first | done | fail)) ?_ | refine aw_block ?_ | refine aw_region T0ok cfU_ok (by rfl) ?_ | refine aw_skip ?_ | refine aw_exit ?_ | refine ra_step ?_))); exact hh.out)) : G := h ⟨k⟩
theorem ga_KGF {H G : Prop} (k : H) (h : Hid H → G := by (intro hh; (first | refine r_none ?_ | refine r_gt (by rfl) (by rfl) (by first | rfl | assumption | omega | (simp only [*, Bool.not_false, Bool.not_true]; first | done | fail) | (simp [*]; first | done | fail)) (by rfl) ?_ | refine r_gf (by rfl) (by rfl) (by first | rfl | assumption | omega | (simp only [*, Bool.not_false, Bool.not_true]; first | done | fail) | (simp [*]; first | done | fail)) (by rfl) ?_); refine z_op (by rfl) ?_; refine z_alV ?_ hh.out; focus (first | exact trivial | fail | exact rfl | (first | omega | (simp only [List.length_append, List.length_replicate, List.length_cons, List.length_nil, List.length_set, List.length_take, List.length_drop, true_and]; omega)) | exact cvB (fun w => rfl) | ((repeat' (first | exact rfl | exact cV_len _ | exact cV_ln rfl (by omega) | exact Cel.pos | omega | exact trivial | refine And.intro ?_ ?_)); done) | (simp [*]; done) | (simp; omega)))) : G := h ⟨k⟩
theorem gs_KGF {H G : Prop} (k : H) (h : Hid H → G := by (intro hh; (first | ((first | refine r_none ?_ | refine r_gt (by rfl) (by rfl) (by first | rfl | assumption | omega | (simp only [*, Bool.not_false, Bool.not_true]; first | done | fail) | (simp [*]; first | done | fail)) (by rfl) ?_ | refine r_gf (by rfl) (by rfl) (by first | rfl | assumption | omega | (simp only [*, Bool.not_false, Bool.not_true]; first | done | fail) | (simp [*]; first | done | fail)) (by rfl) ?_); (first | fail | ((first | (refine z_op (by rfl) ?_; first | refine z_ok ?_ ?_ | refine z_ex ?_ (by first | exact ft_raw rfl rfl | ((first | refine ft_rp rfl rfl rfl ?_ | refine ft_row rfl rfl rfl ?_ | refine ft_rpF rfl rfl rfl ?_ | refine ft_rowF rfl rfl rfl ?_ | refine up_row rfl rfl ?_ | refine up_rowF rfl rfl rfl ?_ | refine ct_0 rfl ?_ | refine ct_r rfl rfl ?_ | refine ct_c rfl rfl rfl ?_ | refine cu_all rfl ?_ | refine cu_to rfl ?_ | refine cu_from rfl ?_ | refine cu_p rfl ?_ | fail); (first | omega | (simp only [List.length_append, List.length_replicate, List.length_cons, List.length_nil, List.length_set, List.length_take, List.length_drop, true_and]; omega))) | exact up_raw rfl | exact pk_t (by first | rfl | assumption | omega | (simp only [*, Bool.not_false, Bool.not_true]; first | done | fail) | (simp [*]; first | done | fail)) rfl | exact pk_f (by first | rfl | assumption | omega | (simp only [*, Bool.not_false, Bool.not_true]; first | done | fail) | (simp [*]; first | done | fail)) rfl | fail | exact rw_raw | exact pu_cv (fun w => rfl) (by omega) | exact pu_of (fun w => rfl) rfl | exact be_of (fun w => rfl) | exact nc_of (fun _ _ _ _ => rfl) rfl | exact bu_of (fun w => rfl) rfl | fail) ?_) | ((first | refine q_callE wsT wsZ (by rfl) ?_ | refine q_callVE wsT (by rfl) (by rfl) ?_); refine ⟨_, _, _, (by first | assumption), _, by rfl, ?_, ?_⟩)); focus (first | exact trivial | fail | exact rfl | (first | omega | (simp only [List.length_append, List.length_replicate, List.length_cons, List.length_nil, List.length_set, List.length_take, List.length_drop, true_and]; omega)) | exact cvB (fun w => rfl) | ((repeat' (first | exact rfl | exact cV_len _ | exact cV_ln rfl (by omega) | exact Cel.pos | omega | exact trivial | refine And.intro ?_ ?_)); done) | (simp [*]; done) | (simp; omega))) | fail)) | refine r_nt (by rfl) (by rfl) (by first | rfl | assumption | omega | (simp only [*, Bool.not_false, Bool.not_true]; first | done | fail) | (simp [*]; first | done | fail)) (by rfl) ?_ | refine r_nf (by rfl) (by rfl) (by first | rfl | assumption | omega | (simp only [*, Bool.not_false, Bool.not_true]; first | done | fail) | (simp [*]; first | done | fail)) (by rfl) ?_ | refine r_gu (by rfl) (by rfl) (by rfl) ?_ | refine r_nil ?_); (repeat (first | ((first | refine r_none ?_ | refine r_gt (by rfl) (by rfl) (by first | rfl | assumption | omega | (simp only [*, Bool.not_false, Bool.not_true]; first | done | fail) | (simp [*]; first | done | fail)) (by rfl) ?_ | refine r_gf (by rfl) (by rfl) (by first | rfl | assumption | omega | (simp only [*, Bool.not_false, Bool.not_true]; first | done | fail) | (simp [*]; first | done | fail)) (by rfl) ?_); (first | fail | ((first | (refine z_op (by rfl) ?_; first | refine z_ok ?_ ?_ | refine z_ex ?_ (by first | exact ft_raw rfl rfl | ((first | refine ft_rp rfl rfl rfl ?_ | refine ft_row rfl rfl rfl ?_ | refine ft_rpF rfl rfl rfl ?_ | refine ft_rowF rfl rfl rfl ?_ | refine up_row rfl rfl ?_ | refine up_rowF rfl rfl rfl ?_ | refine ct_0 rfl ?_ | refine ct_r rfl rfl ?_ | refine ct_c rfl rfl rfl ?_ | refine cu_all rfl ?_ | refine cu_to rfl ?_ | refine cu_from rfl ?_ | refine cu_p rfl ?_ | fail); (first | omega | (simp only [List.length_append, List.length_replicate, List.length_cons, List.length_nil, List.length_set, List.length_take, List.length_drop, true_and]; omega))) | exact up_raw rfl | exact pk_t (by first | rfl | assumption | omega | (simp only [*, Bool.not_false, Bool.not_true]; first | done | fail) | (simp [*]; first | done | fail)) rfl | exact pk_f (by first | rfl | assumption | omega | (simp only [*, Bool.not_false, Bool.not_true]; first | done | fail) | (simp [*]; first | done | fail)) rfl | fail | exact rw_raw | exact pu_cv (fun w => rfl) (by omega) | exact pu_of (fun w => rfl) rfl | exact be_of (fun w => rfl) | exact nc_of (fun _ _ _ _ => rfl) rfl | exact bu_of (fun w => rfl) rfl | fail) ?_) | ((first | refine q_callE wsT wsZ (by rfl) ?_ | refine q_callVE wsT (by rfl) (by rfl) ?_); refine ⟨_, _, _, (by first | assumption), _, by rfl, ?_, ?_⟩)); focus (first | exact trivial | fail | exact rfl | (first | omega | (simp only [List.length_append, List.length_replicate, List.length_cons, List.length_nil, List.length_set, List.length_take, List.length_drop, true_and]; omega)) | exact cvB (fun w => rfl) | ((repeat' (first | exact rfl | exact cV_len _ | exact cV_ln rfl (by omega) | exact Cel.pos | omega | exact trivial | refine And.intro ?_ ?_)); done) | (simp [*]; done) | (simp; omega))) | fail)) | refine r_nt (by rfl) (by rfl) (by first | rfl | assumption | omega | (simp only [*, Bool.not_false, Bool.not_true]; first | done | fail) | (simp [*]; first | done | fail)) (by rfl) ?_ | refine r_nf (by rfl) (by rfl) (by first | rfl | assumption | omega | (simp only [*, Bool.not_false, Bool.not_true]; first | done | fail) | (simp [*]; first | done | fail)) (by rfl) ?_ | refine r_gu (by rfl) (by rfl) (by rfl) ?_ | refine r_nil ?_)); exact hh.out)) : G := h ⟨k⟩
theorem gd_KGF {H G : Prop} (k : H) (h : Hid H → G := by (intro hh; (refine aw_draw mixed T0ok cfU_ok [] (by rfl) (by kernel_rfl) ?_); exact hh.out)) : G := h ⟨k⟩
theorem ite_01 (b : Bool) : 0 ≤ (if b = true then 1 else 0 : Int) ∧ (if b = true then 1 else 0 : Int) ≤ 1 := by cases b <;> decide
set_option maxHeartbeats 1000000 in
theorem k_run (n : Int) (g : Gt) (w : Int) (h : gok n g = true) (hw : 0 ≤ w ∧ w < 256) : Kon Try.prog 93 [gV g, vI w] [] (vI (gr g w)) [] [] := by
  obtain ⟨hn, hf⟩ := gok_facts h
  have hb := gok_bd h
  have hr := gr_if g hw.1
  have sa := sb_and (w := w) (a := g.a) hw.1
  have sb := sb_and (w := w) (a := g.b) hw.1
  have sc := sb_and (w := w) (a := g.c) hw.1
  have pa := pow_7 (n := g.a) (by omega)
  have pb := pow_7 (n := g.b) (by omega)
  have pc := pow_7 (n := g.c) (by omega)
  have ia := ite_01 (bt w g.a)
  have ib := ite_01 (bt w g.b)
  have ic := ite_01 (bt w g.c)
  have e8 : ∀ x : Int, (1 * 2 ^ x.toNat : Int).toNat = 2 ^ x.toNat := fun x => by rw [Int.one_mul, pow_nat]
  have e9 : ∀ x : Int, (0 * 2 ^ x.toNat : Int).toNat = 0 := fun x => by rw [Int.zero_mul]; rfl
  have ew : ((w.toNat : Nat) : Int) = w := Int.toNat_of_nonneg hw.1
  rw [hr]
  rcases hf with ⟨hk, _⟩ | ⟨hk | hk, _⟩ | ⟨hk | hk, _⟩
  · rw [gc0 hk, gm0 hk]
    clear h hr
    obtain ⟨k, a, b, c⟩ := g
    dsimp only at *
    subst hk
    (refine kon_mk T0ok (fn := Try.f93) (c := Try.f93.body.get rfl) Try.func93 rfl (by rfl) (by rfl) (by rfl) ?_; intro hfit hfe)
    clear hfit hfe
    (first | refine aw_seq ?_ | refine aw_ct (by rfl) (by first | rfl | assumption | omega | (simp only [*, Bool.not_false, Bool.not_true]; first | done | fail) | (simp [*]; first | done | fail)) ?_ | refine aw_cf (by rfl) (by first | rfl | assumption | omega | (simp only [*, Bool.not_false, Bool.not_true]; first | done | fail) | (simp [*]; first | done | fail)) ?_ | refine aw_block ?_ | refine aw_region T0ok cfU_ok (by rfl) ?_ | refine aw_skip ?_ | refine aw_exit ?_ | refine ra_step ?_); (first | refine aw_seq ?_ | refine aw_ct (by rfl) (by first | rfl | assumption | omega | (simp only [*, Bool.not_false, Bool.not_true]; first | done | fail) | (simp [*]; first | done | fail)) ?_ | refine aw_cf (by rfl) (by first | rfl | assumption | omega | (simp only [*, Bool.not_false, Bool.not_true]; first | done | fail) | (simp [*]; first | done | fail)) ?_ | refine aw_block ?_ | refine aw_region T0ok cfU_ok (by rfl) ?_ | refine aw_skip ?_ | refine aw_exit ?_ | refine ra_step ?_); (repeat (first | refine gq_KGF ?_ | (refine ga_KGF ?_; intro _hq))); (refine aw_draw mixed T0ok cfU_ok [] (by rfl) (by kernel_rfl) ?_)
    (repeat (first | refine gs_KGF ?_ | (refine ga_KGF ?_; intro _hq)))
    rw [sa, sb, sc]
    clear sa sb sc
    (repeat (first | refine gq_KGF ?_ | (refine ga_KGF ?_; intro _hq) | refine gd_KGF ?_))
    ((try refine aw_ret ?_); refine ret_auto2 (by rfl) (by rfl) (by rfl) (by repeat (first | exact trivial | refine ⟨by first | rfl | omega, ?_⟩)) ?_ (by repeat (first | exact trivial | refine ⟨by rfl, by rfl, ?_⟩)) (by repeat (first | exact trivial | refine ⟨by rfl, by rfl, ?_⟩)); try rfl)
    cases bt w a <;> cases bt w b <;> cases bt w c <;> simp only [Int.toNat_zero, Int.toNat_one, e8, e9, ew, Nat.xor_zero, Bool.and_true, Bool.and_false, Bool.true_and, Bool.false_and, Int.toNat_natCast, Nat.xor_assoc, if_true, if_false, Bool.false_eq_true, Nat.and_self, Nat.xor_self, Nat.zero_and, Nat.and_zero, Nat.zero_xor, Int.natCast_zero, Int.natCast_one, bne_self_eq_false, Bool.true_bne, Bool.false_bne, Bool.not_false, Bool.not_true] <;> rfl
  · rw [gc1 hk, gm1 hk]
    clear h hr
    obtain ⟨k, a, b, c⟩ := g
    dsimp only at *
    subst hk
    (refine kon_mk T0ok (fn := Try.f93) (c := Try.f93.body.get rfl) Try.func93 rfl (by rfl) (by rfl) (by rfl) ?_; intro hfit hfe)
    clear hfit hfe
    (first | refine aw_seq ?_ | refine aw_ct (by rfl) (by first | rfl | assumption | omega | (simp only [*, Bool.not_false, Bool.not_true]; first | done | fail) | (simp [*]; first | done | fail)) ?_ | refine aw_cf (by rfl) (by first | rfl | assumption | omega | (simp only [*, Bool.not_false, Bool.not_true]; first | done | fail) | (simp [*]; first | done | fail)) ?_ | refine aw_block ?_ | refine aw_region T0ok cfU_ok (by rfl) ?_ | refine aw_skip ?_ | refine aw_exit ?_ | refine ra_step ?_); (first | refine aw_seq ?_ | refine aw_ct (by rfl) (by first | rfl | assumption | omega | (simp only [*, Bool.not_false, Bool.not_true]; first | done | fail) | (simp [*]; first | done | fail)) ?_ | refine aw_cf (by rfl) (by first | rfl | assumption | omega | (simp only [*, Bool.not_false, Bool.not_true]; first | done | fail) | (simp [*]; first | done | fail)) ?_ | refine aw_block ?_ | refine aw_region T0ok cfU_ok (by rfl) ?_ | refine aw_skip ?_ | refine aw_exit ?_ | refine ra_step ?_); (repeat (first | refine gq_KGF ?_ | (refine ga_KGF ?_; intro _hq))); (refine aw_draw mixed T0ok cfU_ok [] (by rfl) (by kernel_rfl) ?_)
    (repeat (first | refine gs_KGF ?_ | (refine ga_KGF ?_; intro _hq)))
    rw [sa, sb, sc]
    clear sa sb sc
    (repeat (first | refine gq_KGF ?_ | (refine ga_KGF ?_; intro _hq) | refine gd_KGF ?_))
    ((try refine aw_ret ?_); refine ret_auto2 (by rfl) (by rfl) (by rfl) (by repeat (first | exact trivial | refine ⟨by first | rfl | omega, ?_⟩)) ?_ (by repeat (first | exact trivial | refine ⟨by rfl, by rfl, ?_⟩)) (by repeat (first | exact trivial | refine ⟨by rfl, by rfl, ?_⟩)); try rfl)
    cases bt w a <;> cases bt w b <;> cases bt w c <;> simp only [Int.toNat_zero, Int.toNat_one, e8, e9, ew, Nat.xor_zero, Bool.and_true, Bool.and_false, Bool.true_and, Bool.false_and, Int.toNat_natCast, Nat.xor_assoc, if_true, if_false, Bool.false_eq_true, Nat.and_self, Nat.xor_self, Nat.zero_and, Nat.and_zero, Nat.zero_xor, Int.natCast_zero, Int.natCast_one, bne_self_eq_false, Bool.true_bne, Bool.false_bne, Bool.not_false, Bool.not_true] <;> rfl
  · rw [gc3 hk, gm3 hk]
    clear h hr
    obtain ⟨k, a, b, c⟩ := g
    dsimp only at *
    subst hk
    (refine kon_mk T0ok (fn := Try.f93) (c := Try.f93.body.get rfl) Try.func93 rfl (by rfl) (by rfl) (by rfl) ?_; intro hfit hfe)
    clear hfit hfe
    (first | refine aw_seq ?_ | refine aw_ct (by rfl) (by first | rfl | assumption | omega | (simp only [*, Bool.not_false, Bool.not_true]; first | done | fail) | (simp [*]; first | done | fail)) ?_ | refine aw_cf (by rfl) (by first | rfl | assumption | omega | (simp only [*, Bool.not_false, Bool.not_true]; first | done | fail) | (simp [*]; first | done | fail)) ?_ | refine aw_block ?_ | refine aw_region T0ok cfU_ok (by rfl) ?_ | refine aw_skip ?_ | refine aw_exit ?_ | refine ra_step ?_); (first | refine aw_seq ?_ | refine aw_ct (by rfl) (by first | rfl | assumption | omega | (simp only [*, Bool.not_false, Bool.not_true]; first | done | fail) | (simp [*]; first | done | fail)) ?_ | refine aw_cf (by rfl) (by first | rfl | assumption | omega | (simp only [*, Bool.not_false, Bool.not_true]; first | done | fail) | (simp [*]; first | done | fail)) ?_ | refine aw_block ?_ | refine aw_region T0ok cfU_ok (by rfl) ?_ | refine aw_skip ?_ | refine aw_exit ?_ | refine ra_step ?_); (repeat (first | refine gq_KGF ?_ | (refine ga_KGF ?_; intro _hq))); (refine aw_draw mixed T0ok cfU_ok [] (by rfl) (by kernel_rfl) ?_)
    (repeat (first | refine gs_KGF ?_ | (refine ga_KGF ?_; intro _hq)))
    rw [sa, sb, sc]
    clear sa sb sc
    (repeat (first | refine gq_KGF ?_ | (refine ga_KGF ?_; intro _hq) | refine gd_KGF ?_))
    ((try refine aw_ret ?_); refine ret_auto2 (by rfl) (by rfl) (by rfl) (by repeat (first | exact trivial | refine ⟨by first | rfl | omega, ?_⟩)) ?_ (by repeat (first | exact trivial | refine ⟨by rfl, by rfl, ?_⟩)) (by repeat (first | exact trivial | refine ⟨by rfl, by rfl, ?_⟩)); try rfl)
    cases bt w a <;> cases bt w b <;> cases bt w c <;> simp only [Int.toNat_zero, Int.toNat_one, e8, e9, ew, Nat.xor_zero, Bool.and_true, Bool.and_false, Bool.true_and, Bool.false_and, Int.toNat_natCast, Nat.xor_assoc, if_true, if_false, Bool.false_eq_true, Nat.and_self, Nat.xor_self, Nat.zero_and, Nat.and_zero, Nat.zero_xor, Int.natCast_zero, Int.natCast_one, bne_self_eq_false, Bool.true_bne, Bool.false_bne, Bool.not_false, Bool.not_true] <;> rfl
  · rw [gc2 hk, gm2 hk]
    clear h hr
    obtain ⟨k, a, b, c⟩ := g
    dsimp only at *
    subst hk
    (refine kon_mk T0ok (fn := Try.f93) (c := Try.f93.body.get rfl) Try.func93 rfl (by rfl) (by rfl) (by rfl) ?_; intro hfit hfe)
    clear hfit hfe
    (first | refine aw_seq ?_ | refine aw_ct (by rfl) (by first | rfl | assumption | omega | (simp only [*, Bool.not_false, Bool.not_true]; first | done | fail) | (simp [*]; first | done | fail)) ?_ | refine aw_cf (by rfl) (by first | rfl | assumption | omega | (simp only [*, Bool.not_false, Bool.not_true]; first | done | fail) | (simp [*]; first | done | fail)) ?_ | refine aw_block ?_ | refine aw_region T0ok cfU_ok (by rfl) ?_ | refine aw_skip ?_ | refine aw_exit ?_ | refine ra_step ?_); (first | refine aw_seq ?_ | refine aw_ct (by rfl) (by first | rfl | assumption | omega | (simp only [*, Bool.not_false, Bool.not_true]; first | done | fail) | (simp [*]; first | done | fail)) ?_ | refine aw_cf (by rfl) (by first | rfl | assumption | omega | (simp only [*, Bool.not_false, Bool.not_true]; first | done | fail) | (simp [*]; first | done | fail)) ?_ | refine aw_block ?_ | refine aw_region T0ok cfU_ok (by rfl) ?_ | refine aw_skip ?_ | refine aw_exit ?_ | refine ra_step ?_); (repeat (first | refine gq_KGF ?_ | (refine ga_KGF ?_; intro _hq))); (refine aw_draw mixed T0ok cfU_ok [] (by rfl) (by kernel_rfl) ?_)
    (repeat (first | refine gs_KGF ?_ | (refine ga_KGF ?_; intro _hq)))
    rw [sa, sb, sc]
    clear sa sb sc
    (repeat (first | refine gq_KGF ?_ | (refine ga_KGF ?_; intro _hq) | refine gd_KGF ?_))
    ((try refine aw_ret ?_); refine ret_auto2 (by rfl) (by rfl) (by rfl) (by repeat (first | exact trivial | refine ⟨by first | rfl | omega, ?_⟩)) ?_ (by repeat (first | exact trivial | refine ⟨by rfl, by rfl, ?_⟩)) (by repeat (first | exact trivial | refine ⟨by rfl, by rfl, ?_⟩)); try rfl)
    cases bt w a <;> cases bt w b <;> cases bt w c <;> simp only [Int.toNat_zero, Int.toNat_one, e8, e9, ew, Nat.xor_zero, Bool.and_true, Bool.and_false, Bool.true_and, Bool.false_and, Int.toNat_natCast, Nat.xor_assoc, if_true, if_false, Bool.false_eq_true, Nat.and_self, Nat.xor_self, Nat.zero_and, Nat.and_zero, Nat.zero_xor, Int.natCast_zero, Int.natCast_one, bne_self_eq_false, Bool.true_bne, Bool.false_bne, Bool.not_false, Bool.not_true] <;> rfl
  · rw [gc4 hk, gm4 hk]
    clear h hr
    obtain ⟨k, a, b, c⟩ := g
    dsimp only at *
    subst hk
    (refine kon_mk T0ok (fn := Try.f93) (c := Try.f93.body.get rfl) Try.func93 rfl (by rfl) (by rfl) (by rfl) ?_; intro hfit hfe)
    clear hfit hfe
    (first | refine aw_seq ?_ | refine aw_ct (by rfl) (by first | rfl | assumption | omega | (simp only [*, Bool.not_false, Bool.not_true]; first | done | fail) | (simp [*]; first | done | fail)) ?_ | refine aw_cf (by rfl) (by first | rfl | assumption | omega | (simp only [*, Bool.not_false, Bool.not_true]; first | done | fail) | (simp [*]; first | done | fail)) ?_ | refine aw_block ?_ | refine aw_region T0ok cfU_ok (by rfl) ?_ | refine aw_skip ?_ | refine aw_exit ?_ | refine ra_step ?_); (first | refine aw_seq ?_ | refine aw_ct (by rfl) (by first | rfl | assumption | omega | (simp only [*, Bool.not_false, Bool.not_true]; first | done | fail) | (simp [*]; first | done | fail)) ?_ | refine aw_cf (by rfl) (by first | rfl | assumption | omega | (simp only [*, Bool.not_false, Bool.not_true]; first | done | fail) | (simp [*]; first | done | fail)) ?_ | refine aw_block ?_ | refine aw_region T0ok cfU_ok (by rfl) ?_ | refine aw_skip ?_ | refine aw_exit ?_ | refine ra_step ?_); (repeat (first | refine gq_KGF ?_ | (refine ga_KGF ?_; intro _hq))); (refine aw_draw mixed T0ok cfU_ok [] (by rfl) (by kernel_rfl) ?_)
    (repeat (first | refine gs_KGF ?_ | (refine ga_KGF ?_; intro _hq)))
    rw [sa, sb, sc]
    clear sa sb sc
    (repeat (first | refine gq_KGF ?_ | (refine ga_KGF ?_; intro _hq) | refine gd_KGF ?_))
    ((try refine aw_ret ?_); refine ret_auto2 (by rfl) (by rfl) (by rfl) (by repeat (first | exact trivial | refine ⟨by first | rfl | omega, ?_⟩)) ?_ (by repeat (first | exact trivial | refine ⟨by rfl, by rfl, ?_⟩)) (by repeat (first | exact trivial | refine ⟨by rfl, by rfl, ?_⟩)); try rfl)
    cases bt w a <;> cases bt w b <;> cases bt w c <;> simp only [Int.toNat_zero, Int.toNat_one, e8, e9, ew, Nat.xor_zero, Bool.and_true, Bool.and_false, Bool.true_and, Bool.false_and, Int.toNat_natCast, Nat.xor_assoc, if_true, if_false, Bool.false_eq_true, Nat.and_self, Nat.xor_self, Nat.zero_and, Nat.and_zero, Nat.zero_xor, Int.natCast_zero, Int.natCast_one, bne_self_eq_false, Bool.true_bne, Bool.false_bne, Bool.not_false, Bool.not_true] <;> rfl
end Go.Proofs.Ytdihmpclbgbgpaa

/- What gates make of words, both sides; valid circuits. -/
namespace Go.Proofs.Ytdihmpclbgbgpaa
set_option linter.unusedVariables false
set_option linter.unusedSimpArgs false
set_option maxRecDepth 20000
open Go.RowKit
attribute [local irreducible] runA runX AW
theorem wvB_t {n w : Int} (h : wvB n w = true) : (1 ≤ n ∧ n ≤ 8) ∧ 0 ≤ w ∧ w < 2 ^ n.toNat ∧ w < 256 := by
  unfold wvB at h
  rw [Bool.and_eq_true] at h
  have h1 := btw_t h.1
  have h2 := btw_t h.2
  have h3 := pow_8 h1
  omega
end Go.Proofs.Ytdihmpclbgbgpaa

/- Valid circuits, what circuits make of words, both sides. -/
namespace Go.Proofs.Ytdihmpclbgbgpaa
set_option linter.unusedVariables false
set_option linter.unusedSimpArgs false
set_option maxRecDepth 20000
open Go.RowKit
attribute [local irreducible] runA runX AW
theorem gq_KGJ {H G : Prop} (k : H) (h : Hid H → G := by (intro hh; (first | (first | ((first | refine r_none ?_ | refine r_gt (by rfl) (by rfl) (by first | rfl | assumption | omega | (simp only [*, Bool.not_false, Bool.not_true]; first | done | fail) | (simp [*]; first | done | fail)) (by rfl) ?_ | refine r_gf (by rfl) (by rfl) (by first | rfl | assumption | omega | (simp only [*, Bool.not_false, Bool.not_true]; first | done | fail) | (simp [*]; first | done | fail)) (by rfl) ?_); (first | fail | ((first | (refine z_op (by rfl) ?_; first | refine z_ok ?_ ?_ | refine z_ex ?_ (by first | exact ft_raw rfl rfl | ((first | refine ft_rp rfl rfl rfl ?_ | refine ft_row rfl rfl rfl ?_ | refine ft_rpF rfl rfl rfl ?_ | refine ft_rowF rfl rfl rfl ?_ | refine up_row rfl rfl ?_ | refine up_rowF rfl rfl rfl ?_ | refine ct_0 rfl ?_ | refine ct_r rfl rfl ?_ | refine ct_c rfl rfl rfl ?_ | refine cu_all rfl ?_ | refine cu_to rfl ?_ | refine cu_from rfl ?_ | refine cu_p rfl ?_ | fail); (first | omega | (simp only [List.length_append, List.length_replicate, List.length_cons, List.length_nil, List.length_set, List.length_take, List.length_drop, true_and]; omega))) | exact up_raw rfl | exact pk_t (by first | rfl | assumption | omega | (simp only [*, Bool.not_false, Bool.not_true]; first | done | fail) | (simp [*]; first | done | fail)) rfl | exact pk_f (by first | rfl | assumption | omega | (simp only [*, Bool.not_false, Bool.not_true]; first | done | fail) | (simp [*]; first | done | fail)) rfl | fail | exact rw_raw | exact pu_cv (fun w => rfl) (by omega) | exact pu_of (fun w => rfl) rfl | exact be_of (fun w => rfl) | exact nc_of (fun _ _ _ _ => rfl) rfl | exact bu_of (fun w => rfl) rfl | fail) ?_) | ((first | refine q_callE wsT wsZ (by rfl) ?_ | refine q_callVE wsT (by rfl) (by rfl) ?_); refine ⟨_, _, _, (by first | assumption | exact k_okL _ | exact k_l1In _ _ _ | exact k_wvS2 _ _ | exact k_wv _ _ | exact k_gv _ _ | exact k_gvS _ _ (by omega) | exact k_cv1 _ _ | exact k_idxV _ _ (by omega) | exact k_contV _ _ (by omega) | exact k_cv _ _ (by omega) | exact k_cvS _ _ (by omega) (by omega)), _, by rfl, ?_, ?_⟩)); focus (first | exact trivial | fail | exact rfl | (first | omega | (simp only [List.length_append, List.length_replicate, List.length_cons, List.length_nil, List.length_set, List.length_take, List.length_drop, true_and]; omega)) | exact cvB (fun w => rfl) | ((repeat' (first | exact rfl | exact cV_len _ | exact cV_ln rfl (by omega) | exact Cel.pos | omega | exact trivial | refine And.intro ?_ ?_)); done) | (simp [*]; done) | (simp; omega))) | fail)) | refine r_nt (by rfl) (by rfl) (by first | rfl | assumption | omega | (simp only [*, Bool.not_false, Bool.not_true]; first | done | fail) | (simp [*]; first | done | fail)) (by rfl) ?_ | refine r_nf (by rfl) (by rfl) (by first | rfl | assumption | omega | (simp only [*, Bool.not_false, Bool.not_true]; first | done | fail) | (simp [*]; first | done | fail)) (by rfl) ?_ | refine r_gu (by rfl) (by rfl) (by rfl) ?_ | refine r_nil ?_) | (first | refine aw_seq ?_ | refine aw_ct (by rfl) (by first | rfl | assumption | omega | (simp only [*, Bool.not_false, Bool.not_true]; first | done | fail) | (simp [*]; first | done | fail)) ?_ | refine aw_cf (by rfl) (by first | rfl | assumption | omega | (simp only [*, Bool.not_false, Bool.not_true]; first | done | fail) | (simp [*]; first | done | fail)) ?_ | refine aw_block ?_ | refine aw_region T0ok cfU_ok (by rfl) ?_ | refine aw_skip ?_ | refine aw_exit ?_ | refine ra_step ?_)); (repeat (first | (first | ((first | refine r_none ?_ | refine r_gt (by rfl) (by rfl) (by first | rfl | assumption | omega | (simp only [*, Bool.not_false, Bool.not_true]; first | done | fail) | (simp [*]; first | done | fail)) (by rfl) ?_ | refine r_gf (by rfl) (by rfl) (by first | rfl | assumption | omega | (simp only [*, Bool.not_false, Bool.not_true]; first | done | fail) | (simp [*]; first | done | fail)) (by rfl) ?_); (first | fail | ((first | (refine z_op (by rfl) ?_; first | refine z_ok ?_ ?_ | refine z_ex ?_ (by first | exact ft_raw rfl rfl | ((first | refine ft_rp rfl rfl rfl ?_ | refine ft_row rfl rfl rfl ?_ | refine ft_rpF rfl rfl rfl ?_ | refine ft_rowF rfl rfl rfl ?_ | refine up_row rfl rfl ?_ | refine up_rowF rfl rfl rfl ?_ | refine ct_0 rfl ?_ | refine ct_r rfl rfl ?_ | refine ct_c rfl rfl rfl ?_ | refine cu_all rfl ?_ | refine cu_to rfl ?_ | refine cu_from rfl ?_ | refine cu_p rfl ?_ | fail); (first | omega | (simp only [List.length_append, List.length_replicate, List.length_cons, List.length_nil, List.length_set, List.length_take, List.length_drop, true_and]; omega))) | exact up_raw rfl | exact pk_t (by first | rfl | assumption | omega | (simp only [*, Bool.not_false, Bool.not_true]; first | done | fail) | (simp [*]; first | done | fail)) rfl | exact pk_f (by first | rfl | assumption | omega | (simp only [*, Bool.not_false, Bool.not_true]; first | done | fail) | (simp [*]; first | done | fail)) rfl | fail | exact rw_raw | exact pu_cv (fun w => rfl) (by omega) | exact pu_of (fun w => rfl) rfl | exact be_of (fun w => rfl) | exact nc_of (fun _ _ _ _ => rfl) rfl | exact bu_of (fun w => rfl) rfl | fail) ?_) | ((first | refine q_callE wsT wsZ (by rfl) ?_ | refine q_callVE wsT (by rfl) (by rfl) ?_); refine ⟨_, _, _, (by first | assumption | exact k_okL _ | exact k_l1In _ _ _ | exact k_wvS2 _ _ | exact k_wv _ _ | exact k_gv _ _ | exact k_gvS _ _ (by omega) | exact k_cv1 _ _ | exact k_idxV _ _ (by omega) | exact k_contV _ _ (by omega) | exact k_cv _ _ (by omega) | exact k_cvS _ _ (by omega) (by omega)), _, by rfl, ?_, ?_⟩)); focus (first | exact trivial | fail | exact rfl | (first | omega | (simp only [List.length_append, List.length_replicate, List.length_cons, List.length_nil, List.length_set, List.length_take, List.length_drop, true_and]; omega)) | exact cvB (fun w => rfl) | ((repeat' (first | exact rfl | exact cV_len _ | exact cV_ln rfl (by omega) | exact Cel.pos | omega | exact trivial | refine And.intro ?_ ?_)); done) | (simp [*]; done) | (simp; omega))) | fail)) | refine r_nt (by rfl) (by rfl) (by first | rfl | assumption | omega | (simp only [*, Bool.not_false, Bool.not_true]; first | done | fail) | (simp [*]; first | done | fail)) (by rfl) ?_ | refine r_nf (by rfl) (by rfl) (by first | rfl | assumption | omega | (simp only [*, Bool.not_false, Bool.not_true]; first | done | fail) | (simp [*]; first | done | fail)) (by rfl) ?_ | refine r_gu (by rfl) (by rfl) (by rfl) ?_ | refine r_nil ?_) | (first | refine aw_seq ?_ | refine aw_ct (by rfl) (by first | rfl | assumption | omega | (simp only [*, Bool.not_false, Bool.not_true]; first | done | fail) | (simp [*]; first | done | fail)) ?_ | refine aw_cf (by rfl) (by first | rfl | assumption | omega | (simp only [*, Bool.not_false, Bool.not_true]; first | done | fail) | (simp [*]; first | done | fail)) ?_ | refine aw_block ?_ | refine aw_region T0ok cfU_ok (by rfl) ?_ | refine aw_skip ?_ | refine aw_exit ?_ | refine ra_step ?_))); exact hh.out)) : G := h ⟨k⟩
theorem ga_KGJ {H G : Prop} (k : H) (h : Hid H → G := by (intro hh; (first | refine r_none ?_ | refine r_gt (by rfl) (by rfl) (by first | rfl | assumption | omega | (simp only [*, Bool.not_false, Bool.not_true]; first | done | fail) | (simp [*]; first | done | fail)) (by rfl) ?_ | refine r_gf (by rfl) (by rfl) (by first | rfl | assumption | omega | (simp only [*, Bool.not_false, Bool.not_true]; first | done | fail) | (simp [*]; first | done | fail)) (by rfl) ?_); refine z_op (by rfl) ?_; refine z_alV ?_ hh.out; focus (first | exact trivial | fail | exact rfl | (first | omega | (simp only [List.length_append, List.length_replicate, List.length_cons, List.length_nil, List.length_set, List.length_take, List.length_drop, true_and]; omega)) | exact cvB (fun w => rfl) | ((repeat' (first | exact rfl | exact cV_len _ | exact cV_ln rfl (by omega) | exact Cel.pos | omega | exact trivial | refine And.intro ?_ ?_)); done) | (simp [*]; done) | (simp; omega)))) : G := h ⟨k⟩
abbrev capA : AV := .g (.one (.fn 92 [(100000, 0)]))
abbrev boxI (n : Int) : Ent := .rbx [.v (.int .i64 n)]
theorem k_cv1 (n : Int) (g : Gt) : Kon Try.prog 92 [gV g, .g (.one (.ptr 100000 0 0))] [boxI n] (vB (!(gok n g))) [] [boxI n] := by
  (refine kon_mk T0ok (fn := Try.f92) (c := Try.f92.body.get rfl) Try.func92 rfl (by rfl) (by rfl) (by rfl) ?_; intro hfit hfe)
  (repeat (first | refine gq_KGJ ?_ | (refine ga_KGJ ?_; intro _hq)))
  ((try refine aw_ret ?_); refine ret_auto2 (by rfl) (by rfl) (by rfl) (by repeat (first | exact trivial | refine ⟨by first | rfl | omega, ?_⟩)) ?_ (by repeat (first | exact trivial | refine ⟨by rfl, by rfl, ?_⟩)) (by repeat (first | exact trivial | refine ⟨by rfl, by rfl, ?_⟩)); try rfl)
/-- The place of the first gate that is not valid. -/
def badI (n : Int) : List Gt → Nat → Int
  | [], _ => -1
  | g :: l, i => if gok n g = true then badI n l (i + 1) else (i : Int)
theorem badI_all {n : Int} : ∀ (l : List Gt) (i : Nat), decide (badI n l i ≥ 0) = !(l.all (gok n))
  | [], i => rfl
  | g :: l, i => by
    cases h : gok n g with
    | true => simp only [badI, h, if_true, List.all_cons, Bool.true_and]; exact badI_all l (i + 1)
    | false => simp [badI, h]
theorem badI_drop {n : Int} {l : List Gt} {i : Nat} (hi : i < l.length) : badI n (l.drop i) i = if gok n (l.getD i Cel.no) = true then badI n (l.drop (i + 1)) (i + 1) else (i : Int) := by
  have e : l.getD i Cel.no = l[i] := by simp [List.getD_eq_getElem?_getD, hi]
  rw [List.drop_eq_getElem_cons hi, e]; rfl
theorem k_idxV (n : Int) (l : List Gt) (h : l.length ≤ 100000000) : Kon Try.prog 109 [roA l, capA] [boxI n] (vI (badI n l 0)) [] [boxI n] := by
  (refine kon_mk T0ok (fn := Try.f109) (c := Try.f109.body.get rfl) Try.func109 rfl (by rfl) (by rfl) (by rfl) ?_; intro hfit hfe)
  (repeat (first | refine gq_KGJ ?_ | (refine ga_KGJ ?_; intro _hq)))
  (refine aw_rd [0, 1, 7] [100000] (fun i : Nat => [(8, vI i)]) (fun _ => []) (fun i => i ≤ l.length ∧ badI n (l.drop i) i = badI n l 0) (fun i => l.length - i) 0 (by rfl) (by rfl) ?_ (by rfl) (by repeat (first | exact trivial | refine ⟨by rfl, ?_⟩ | refine ⟨vI_of (by rfl) (by omega), ?_⟩)) (by repeat (first | exact trivial | refine ⟨by rfl, ?_⟩ | refine ⟨vI_of (by rfl) (by omega), ?_⟩)) ?_)
  · exact ⟨Nat.zero_le _, by rw [List.drop_zero]⟩
  rintro i ⟨hi, hz⟩
  rcases Nat.lt_or_ge i l.length with h6 | h6
  · have hd : decide ((i : Int) < (l.length : Int)) = true := by simpa using h6
    rw [badI_drop h6] at hz
    have hK := k_cv1 n (l.getD (i : Int).toNat Cel.no)
    replace hz : (if gok n (l.getD (i : Int).toNat Cel.no) = true then badI n (l.drop (i + 1)) (i + 1) else (i : Int)) = badI n l 0 := hz
    cases hb : gok n (l.getD (i : Int).toNat Cel.no) with
    | false =>
      rw [hb, if_neg (by decide)] at hz
      rw [hb] at hK
      rw [← hz]
      clear hz
      (repeat (first | refine gq_KGJ ?_ | (refine ga_KGJ ?_; intro _hq)))
      ((try refine aw_ret ?_); refine ret_auto2 (by rfl) (by rfl) (by rfl) (by repeat (first | exact trivial | refine ⟨by first | rfl | omega, ?_⟩)) ?_ (by repeat (first | exact trivial | refine ⟨by rfl, by rfl, ?_⟩)) (by repeat (first | exact trivial | refine ⟨by rfl, by rfl, ?_⟩)); try rfl)
    | true =>
      rw [hb, if_pos rfl] at hz
      rw [hb] at hK
      have hinv : i + 1 ≤ l.length ∧ badI n (l.drop (i + 1)) (i + 1) = badI n l 0 := ⟨h6, hz⟩
      clear hz
      (repeat (first | refine gq_KGJ ?_ | (refine ga_KGJ ?_; intro _hq)))
      exact ⟨i + 1, hinv, ⟨by rfl, (by repeat (first | exact trivial | refine ⟨by rfl, ?_⟩ | refine ⟨vI_of (by rfl) (by omega), ?_⟩)), (by repeat (first | exact trivial | refine ⟨by rfl, ?_⟩ | refine ⟨vI_of (by rfl) (by omega), ?_⟩))⟩, (by first | omega | (dsimp only; omega))⟩
  · have hd : decide ((i : Int) < (l.length : Int)) = false := by simp; omega
    rw [List.drop_of_length_le h6, badI] at hz
    rw [← hz]
    clear hz
    (repeat (first | refine gq_KGJ ?_ | (refine ga_KGJ ?_; intro _hq)))
    ((try refine aw_ret ?_); refine ret_auto2 (by rfl) (by rfl) (by rfl) (by repeat (first | exact trivial | refine ⟨by first | rfl | omega, ?_⟩)) ?_ (by repeat (first | exact trivial | refine ⟨by rfl, by rfl, ?_⟩)) (by repeat (first | exact trivial | refine ⟨by rfl, by rfl, ?_⟩)); try rfl)
theorem k_contV (n : Int) (l : List Gt) (h : l.length ≤ 100000000) : Kon Try.prog 91 [roA l, capA] [boxI n] (vB (!(l.all (gok n)))) [] [boxI n] := by
  rw [← badI_all l 0]
  (refine kon_mk T0ok (fn := Try.f91) (c := Try.f91.body.get rfl) Try.func91 rfl (by rfl) (by rfl) (by rfl) ?_; intro hfit hfe)
  (repeat (first | refine gq_KGJ ?_ | (refine ga_KGJ ?_; intro _hq)))
  ((try refine aw_ret ?_); refine ret_auto2 (by rfl) (by rfl) (by rfl) (by repeat (first | exact trivial | refine ⟨by first | rfl | omega, ?_⟩)) ?_ (by repeat (first | exact trivial | refine ⟨by rfl, by rfl, ?_⟩)) (by repeat (first | exact trivial | refine ⟨by rfl, by rfl, ?_⟩)); try rfl)
def cokB (n : Int) (l : List Gt) : Bool := btw n 1 8 && (decide ((l.length : Int) ≤ 24) && l.all (gok n))
theorem k_cv (n : Int) (l : List Gt) (h : l.length ≤ 100000000) : Kon Try.prog 53 [vI n, roA l] [] (vB (cokB n l)) [] [] := by
  unfold cokB
  cases h1 : btw n 1 8 with
  | false =>
    (refine kon_mk T0ok (fn := Try.f53) (c := Try.f53.body.get rfl) Try.func53 rfl (by rfl) (by rfl) (by rfl) ?_; intro hfit hfe)
    (repeat (first | refine gq_KGJ ?_ | (refine ga_KGJ ?_; intro _hq)))
    ((try refine aw_ret ?_); refine ret_auto2 (by rfl) (by rfl) (by rfl) (by repeat (first | exact trivial | refine ⟨by first | rfl | omega, ?_⟩)) ?_ (by repeat (first | exact trivial | refine ⟨by rfl, by rfl, ?_⟩)) (by repeat (first | exact trivial | refine ⟨by rfl, by rfl, ?_⟩)); try rfl)
  | true =>
    cases h2 : decide ((l.length : Int) ≤ 24) with
    | false =>
      (refine kon_mk T0ok (fn := Try.f53) (c := Try.f53.body.get rfl) Try.func53 rfl (by rfl) (by rfl) (by rfl) ?_; intro hfit hfe)
      (repeat (first | refine gq_KGJ ?_ | (refine ga_KGJ ?_; intro _hq)))
      ((try refine aw_ret ?_); refine ret_auto2 (by rfl) (by rfl) (by rfl) (by repeat (first | exact trivial | refine ⟨by first | rfl | omega, ?_⟩)) ?_ (by repeat (first | exact trivial | refine ⟨by rfl, by rfl, ?_⟩)) (by repeat (first | exact trivial | refine ⟨by rfl, by rfl, ?_⟩)); try rfl)
    | true =>
      (refine kon_mk T0ok (fn := Try.f53) (c := Try.f53.body.get rfl) Try.func53 rfl (by rfl) (by rfl) (by rfl) ?_; intro hfit hfe)
      (repeat (first | refine gq_KGJ ?_ | (refine ga_KGJ ?_; intro _hq)))
      ((try refine aw_ret ?_); refine ret_auto2 (by rfl) (by rfl) (by rfl) (by repeat (first | exact trivial | refine ⟨by first | rfl | omega, ?_⟩)) ?_ (by repeat (first | exact trivial | refine ⟨by rfl, by rfl, ?_⟩)) (by repeat (first | exact trivial | refine ⟨by rfl, by rfl, ?_⟩)); try rfl)
      rw [Bool.not_not]; rfl
theorem all_drop {p : Gt → Bool} {l : List Gt} {i : Nat} (hi : i < l.length) : (l.drop i).all p = (p (l.getD i Cel.no) && (l.drop (i + 1)).all p) := by
  have e : l.getD i Cel.no = l[i] := by simp [List.getD_eq_getElem?_getD, hi]
  rw [List.drop_eq_getElem_cons hi, e, List.all_cons]
theorem k_cvS (n : Int) (l : List Gt) (h : l.length ≤ 100000000) (hr : -9223372036854775808 ≤ n ∧ n ≤ 9223372036854775807) : Kon Try.prog 43 [vI n, roA l] [] (vB (cokB n l)) [] [] := by
  have e : cokB n l = (l.all (gok n) && (btw n 1 8 && decide ((l.length : Int) ≤ 24))) := by
    unfold cokB; cases btw n 1 8 <;> cases decide ((l.length : Int) ≤ 24) <;> cases l.all (gok n) <;> rfl
  rw [e]
  clear e
  (refine kon_mk T0ok (fn := Try.f43) (c := Try.f43.body.get rfl) Try.func43 rfl (by rfl) (by rfl) (by rfl) ?_; intro hfit hfe)
  (repeat (first | refine gq_KGJ ?_ | (refine ga_KGJ ?_; intro _hq)))
  (refine aw_rd [0, 1] [] (fun i : Nat => [(5, vI i)]) (fun _ => []) (fun i => i ≤ l.length ∧ (l.drop i).all (gok n) = l.all (gok n)) (fun i => l.length - i) 0 (by rfl) (by rfl) ?_ (by rfl) (by repeat (first | exact trivial | refine ⟨by rfl, ?_⟩ | refine ⟨vI_of (by rfl) (by omega), ?_⟩)) (by repeat (first | exact trivial | refine ⟨by rfl, ?_⟩ | refine ⟨vI_of (by rfl) (by omega), ?_⟩)) ?_)
  · exact ⟨Nat.zero_le _, by rw [List.drop_zero]⟩
  rintro i ⟨hi, hz⟩
  rcases Nat.lt_or_ge i l.length with h6 | h6
  · have hd : decide ((i : Int) < (l.length : Int)) = true := by simpa using h6
    rw [all_drop h6] at hz
    have hK := k_gvS n (l.getD (i : Int).toNat Cel.no) hr
    replace hz : (gok n (l.getD (i : Int).toNat Cel.no) && (l.drop (i + 1)).all (gok n)) = l.all (gok n) := hz
    cases hb : gok n (l.getD (i : Int).toNat Cel.no) with
    | false =>
      rw [hb, Bool.false_and] at hz
      rw [hb] at hK
      rw [← hz, Bool.false_and]
      clear hz
      (repeat (first | refine gq_KGJ ?_ | (refine ga_KGJ ?_; intro _hq)))
      ((try refine aw_ret ?_); refine ret_auto2 (by rfl) (by rfl) (by rfl) (by repeat (first | exact trivial | refine ⟨by first | rfl | omega, ?_⟩)) ?_ (by repeat (first | exact trivial | refine ⟨by rfl, by rfl, ?_⟩)) (by repeat (first | exact trivial | refine ⟨by rfl, by rfl, ?_⟩)); try rfl)
    | true =>
      rw [hb, Bool.true_and] at hz
      rw [hb] at hK
      have hinv : i + 1 ≤ l.length ∧ (l.drop (i + 1)).all (gok n) = l.all (gok n) := ⟨h6, hz⟩
      clear hz
      (repeat (first | refine gq_KGJ ?_ | (refine ga_KGJ ?_; intro _hq)))
      exact ⟨i + 1, hinv, ⟨by rfl, (by repeat (first | exact trivial | refine ⟨by rfl, ?_⟩ | refine ⟨vI_of (by rfl) (by omega), ?_⟩)), (by repeat (first | exact trivial | refine ⟨by rfl, ?_⟩ | refine ⟨vI_of (by rfl) (by omega), ?_⟩))⟩, (by first | omega | (dsimp only; omega))⟩
  · have hd : decide ((i : Int) < (l.length : Int)) = false := by simp; omega
    rw [List.drop_of_length_le h6, List.all_nil] at hz
    rw [← hz, Bool.true_and]
    clear hz
    cases hn : btw n 1 8
    all_goals
      (repeat (first | refine gq_KGJ ?_ | (refine ga_KGJ ?_; intro _hq)))
      ((try refine aw_ret ?_); refine ret_auto2 (by rfl) (by rfl) (by rfl) (by repeat (first | exact trivial | refine ⟨by first | rfl | omega, ?_⟩)) ?_ (by repeat (first | exact trivial | refine ⟨by rfl, by rfl, ?_⟩)) (by repeat (first | exact trivial | refine ⟨by rfl, by rfl, ?_⟩)); try rfl)
theorem cr_drop {l : List Gt} {i : Nat} {w : Int} (hi : i < l.length) : cr (l.drop i) w = cr (l.drop (i + 1)) (gr (l.getD i Cel.no) w) := by
  have e : l.getD i Cel.no = l[i] := by simp [List.getD_eq_getElem?_getD, hi]
  rw [List.drop_eq_getElem_cons hi, e, cr_cons]
theorem all_at {p : Gt → Bool} {l : List Gt} (h : l.all p = true) {i : Nat} (hi : i < l.length) : p (l.getD i Cel.no) = true := by
  have e : l.getD i Cel.no = l[i] := by simp [List.getD_eq_getElem?_getD, hi]
  rw [e]; exact List.all_eq_true.1 h _ (List.getElem_mem hi)
theorem k_runAll (n : Int) (l : List Gt) (w : Int) (h : l.all (gok n) = true) (hl : l.length ≤ 100000000) (hw : wvB n w = true) : Kon Try.prog 54 [roA l, vI w] [] (vI (cr l w)) [] [] := by
  have hv := wvB_t hw
  (refine kon_mk T0ok (fn := Try.f54) (c := Try.f54.body.get rfl) Try.func54 rfl (by rfl) (by rfl) (by rfl) ?_; intro hfit hfe)
  (repeat (first | refine gq_KGJ ?_ | (refine ga_KGJ ?_; intro _hq)))
  (refine aw_rd [7, 8] [] (fun g : Nat × Int => [(9, vI g.1), (1, vI g.2)]) (fun _ => []) (fun g => g.1 ≤ l.length ∧ (0 ≤ g.2 ∧ g.2 < 2 ^ n.toNat) ∧ cr (l.drop g.1) g.2 = cr l w) (fun g => l.length - g.1) (0, w) (by rfl) (by rfl) ?_ (by rfl) (by repeat (first | exact trivial | refine ⟨by rfl, ?_⟩ | refine ⟨vI_of (by rfl) (by omega), ?_⟩)) (by repeat (first | exact trivial | refine ⟨by rfl, ?_⟩ | refine ⟨vI_of (by rfl) (by omega), ?_⟩)) ?_)
  · exact ⟨Nat.zero_le _, ⟨hv.2.1, hv.2.2.1⟩, by rw [List.drop_zero]⟩
  rintro ⟨i, v⟩ ⟨hi, hv2, hz⟩
  dsimp only at hi hv2 hz ⊢
  have h8 := pow_8 hv.1
  rcases Nat.lt_or_ge i l.length with h6 | h6
  · have hd : decide ((i : Int) < (l.length : Int)) = true := by simpa using h6
    rw [cr_drop h6] at hz
    have hg := all_at h h6
    have hK : Kon Try.prog 93 [gV (l.getD (i : Int).toNat Cel.no), vI v] [] (vI (gr (l.getD i Cel.no) v)) [] [] := k_run n (l.getD i Cel.no) v hg (by omega)
    have hinv : i + 1 ≤ l.length ∧ (0 ≤ gr (l.getD i Cel.no) v ∧ gr (l.getD i Cel.no) v < 2 ^ n.toNat) ∧ cr (l.drop (i + 1)) (gr (l.getD i Cel.no) v) = cr l w := ⟨h6, gr_lt hg hv2, hz⟩
    clear hz
    (repeat (first | refine gq_KGJ ?_ | (refine ga_KGJ ?_; intro _hq)))
    exact ⟨(i + 1, gr (l.getD i Cel.no) v), hinv, ⟨by rfl, (by repeat (first | exact trivial | refine ⟨by rfl, ?_⟩ | refine ⟨vI_of (by rfl) (by omega), ?_⟩)), (by repeat (first | exact trivial | refine ⟨by rfl, ?_⟩ | refine ⟨vI_of (by rfl) (by omega), ?_⟩))⟩, (by first | omega | (dsimp only; omega))⟩
  · have hd : decide ((i : Int) < (l.length : Int)) = false := by simp; omega
    rw [List.drop_of_length_le h6] at hz
    rw [← hz]
    clear hz
    (repeat (first | refine gq_KGJ ?_ | (refine ga_KGJ ?_; intro _hq)))
    ((try refine aw_ret ?_); refine ret_auto2 (by rfl) (by rfl) (by rfl) (by repeat (first | exact trivial | refine ⟨by first | rfl | omega, ?_⟩)) ?_ (by repeat (first | exact trivial | refine ⟨by rfl, by rfl, ?_⟩)) (by repeat (first | exact trivial | refine ⟨by rfl, by rfl, ?_⟩)); try rfl)
def crM (n : Int) (l : List Gt) (w : Int) : Int := if cokB n l && wvB n w then cr l w else -1
theorem cokB_t {n : Int} {l : List Gt} (h : cokB n l = true) : (1 ≤ n ∧ n ≤ 8) ∧ l.length ≤ 24 ∧ l.all (gok n) = true := by
  unfold cokB at h
  simp only [Bool.and_eq_true, decide_eq_true_eq] at h
  exact ⟨btw_t h.1, by omega, h.2.2⟩

theorem k_crun (n : Int) (l : List Gt) (w : Int) (hl : l.length ≤ 100000000) (hr : -9223372036854775808 ≤ n ∧ n ≤ 9223372036854775807) : Kon Try.prog 17 [vI n, roA l, vI w] [] (vI (crM n l w)) [] [] := by
  unfold crM
  cases h1 : cokB n l with
  | false =>
    (refine kon_mk T0ok (fn := Try.f17) (c := Try.f17.body.get rfl) Try.func17 rfl (by rfl) (by rfl) (by rfl) ?_; intro hfit hfe)
    (repeat (first | refine gq_KGJ ?_ | (refine ga_KGJ ?_; intro _hq)))
    ((try refine aw_ret ?_); refine ret_auto2 (by rfl) (by rfl) (by rfl) (by repeat (first | exact trivial | refine ⟨by first | rfl | omega, ?_⟩)) ?_ (by repeat (first | exact trivial | refine ⟨by rfl, by rfl, ?_⟩)) (by repeat (first | exact trivial | refine ⟨by rfl, by rfl, ?_⟩)); try rfl)
  | true =>
    cases h2 : wvB n w with
    | false =>
      (refine kon_mk T0ok (fn := Try.f17) (c := Try.f17.body.get rfl) Try.func17 rfl (by rfl) (by rfl) (by rfl) ?_; intro hfit hfe)
      (repeat (first | refine gq_KGJ ?_ | (refine ga_KGJ ?_; intro _hq)))
      ((try refine aw_ret ?_); refine ret_auto2 (by rfl) (by rfl) (by rfl) (by repeat (first | exact trivial | refine ⟨by first | rfl | omega, ?_⟩)) ?_ (by repeat (first | exact trivial | refine ⟨by rfl, by rfl, ?_⟩)) (by repeat (first | exact trivial | refine ⟨by rfl, by rfl, ?_⟩)); try rfl)
    | true =>
      have hc := cokB_t h1
      have hK := k_runAll n l w hc.2.2 hl h2
      (refine kon_mk T0ok (fn := Try.f17) (c := Try.f17.body.get rfl) Try.func17 rfl (by rfl) (by rfl) (by rfl) ?_; intro hfit hfe)
      (repeat (first | refine gq_KGJ ?_ | (refine ga_KGJ ?_; intro _hq)))
      ((try refine aw_ret ?_); refine ret_auto2 (by rfl) (by rfl) (by rfl) (by repeat (first | exact trivial | refine ⟨by first | rfl | omega, ?_⟩)) ?_ (by repeat (first | exact trivial | refine ⟨by rfl, by rfl, ?_⟩)) (by repeat (first | exact trivial | refine ⟨by rfl, by rfl, ?_⟩)); try rfl)




















end Go.Proofs.Ytdihmpclbgbgpaa

/- Plain laws of formulas: the gates of a step, of all steps, and the clean circuit. -/
namespace Go.Proofs.Ytdihmpclbgbgpaa
set_option linter.unusedVariables false
set_option linter.unusedSimpArgs false
/-- A step of a formula. -/
structure Stp where
  o : Int
  x : Int
  y : Int
  deriving DecidableEq
instance : Cel Stp where
  f s := [.int .i64 s.o, .int .i64 s.x, .int .i64 s.y]
  un vs := match vs with
    | [.int .i64 o, .int .i64 x, .int .i64 y] => some ⟨o, x, y⟩
    | _ => none
  sz := 3
  no := ⟨0, 0, 0⟩
  pos := by omega
  len _ := rfl
  one _ := rfl
  unf vs a h := by
    split at h
    · cases h; rfl
    · cases h
/-- A step that may stand at its place. -/
def fsOk (n : Int) (i : Nat) (s : Stp) : Bool := btw s.o 0 3 && btw s.x 0 (n + (i : Int) - 1) && (if s.o = 3 then s.y == 0 else btw s.y 0 (n + (i : Int) - 1) && (s.y != s.x))
def fokN (n : Int) (l : List Stp) : Nat → Bool
  | 0 => true
  | i + 1 => fokN n l i && fsOk n i (l.getD i Cel.no)
def fok (n : Int) (l : List Stp) : Bool := btw n 1 3 && btw (l.length : Int) 1 3 && fokN n l l.length
def SOk (L : Int) (s : Stp) : Prop := (0 ≤ s.o ∧ s.o ≤ 3) ∧ (0 ≤ s.x ∧ s.x < L) ∧ (s.o = 3 → s.y = 0) ∧ (s.o ≠ 3 → (0 ≤ s.y ∧ s.y < L) ∧ s.y ≠ s.x)
theorem fsOk_t {n : Int} {i : Nat} {s : Stp} (h : fsOk n i s = true) : SOk (n + i) s := by
  unfold fsOk btw at h
  split at h
  · rename_i h3
    simp only [Bool.and_eq_true, decide_eq_true_eq, beq_iff_eq] at h
    exact ⟨by omega, by omega, fun _ => h.2, fun hn => absurd h3 hn⟩
  · rename_i h3
    simp only [Bool.and_eq_true, decide_eq_true_eq, bne_iff_ne] at h
    exact ⟨by omega, by omega, fun hn => absurd hn h3, fun _ => ⟨by omega, h.2.2⟩⟩
theorem fokN_t {n : Int} {l : List Stp} : ∀ {m : Nat}, fokN n l m = true → ∀ i, i < m → SOk (n + i) (l.getD i Cel.no)
  | m + 1, h, i, hi => by
    rw [fokN, Bool.and_eq_true] at h
    rcases Nat.lt_or_ge i m with h1 | h1
    · exact fokN_t h.1 i h1
    · obtain rfl : i = m := by omega
      exact fsOk_t h.2
theorem fok_t {n : Int} {l : List Stp} (h : fok n l = true) : (1 ≤ n ∧ n ≤ 3) ∧ (1 ≤ l.length ∧ l.length ≤ 3) ∧ ∀ i, i < l.length → SOk (n + i) (l.getD i Cel.no) := by
  unfold fok btw at h
  simp only [Bool.and_eq_true, decide_eq_true_eq] at h
  exact ⟨h.1.1, by omega, fokN_t h.2⟩
/-- What a step makes of two bits. -/
def fbt (s : Stp) (a b : Bool) : Bool := if s.o = 0 then a && b else if s.o = 1 then a || b else if s.o = 2 then a ^^ b else !a
/-- The gates of a step. -/
def sg (s : Stp) (L : Int) : List Gt := if s.o = 0 then [⟨2, s.x, s.y, L⟩] else if s.o = 1 then [⟨1, s.x, L, 0⟩, ⟨1, s.y, L, 0⟩, ⟨2, s.x, s.y, L⟩] else if s.o = 2 then [⟨1, s.x, L, 0⟩, ⟨1, s.y, L, 0⟩] else [⟨1, s.x, L, 0⟩, ⟨0, L, 0, 0⟩]
theorem bt_g1 (w x L i : Int) : bt (gr ⟨1, x, L, 0⟩ w) i = (bt w i ^^ (bt w x && decide (L.toNat = i.toNat))) := by
  rw [gr_bt, gc1 rfl, gm1 rfl, two_bit]
theorem bt_g2 (w x y L i : Int) : bt (gr ⟨2, x, y, L⟩ w) i = (bt w i ^^ ((bt w x && bt w y) && decide (L.toNat = i.toNat))) := by
  rw [gr_bt, gc2 rfl, gm2 rfl, two_bit]
theorem bt_g0 (w L i : Int) : bt (gr ⟨0, L, 0, 0⟩ w) i = (bt w i ^^ decide (L.toNat = i.toNat)) := by
  rw [gr_bt, gc0 rfl, gm0 rfl, two_bit, Bool.true_and]
theorem sg_bt {s : Stp} {L : Int} (h : SOk L s) (w i : Int) : bt (cr (sg s L) w) i = (bt w i ^^ (fbt s (bt w s.x) (bt w s.y) && decide (L.toNat = i.toNat))) := by
  obtain ⟨ho, hx, h3, hy⟩ := h
  have dx : decide (L.toNat = s.x.toNat) = false := decide_eq_false (by omega)
  unfold sg fbt
  split
  · rw [cr_cons]
    show bt (gr _ w) i = _
    rw [bt_g2]
  · split
    · rename_i h1
      have dy : decide (L.toNat = s.y.toNat) = false := decide_eq_false (by have := hy (by omega); omega)
      rw [cr_cons, cr_cons, cr_cons]
      show bt (gr _ (gr _ (gr _ w))) i = _
      simp only [bt_g2, bt_g1, dx, dy]
      cases bt w s.x <;> cases bt w s.y <;> cases bt w i <;> cases decide (L.toNat = i.toNat) <;> rfl
    · split
      · have dy : decide (L.toNat = s.y.toNat) = false := decide_eq_false (by have := hy (by omega); omega)
        rw [cr_cons, cr_cons]
        show bt (gr _ (gr _ w)) i = _
        simp only [bt_g1, dy]
        cases bt w s.x <;> cases bt w s.y <;> cases bt w i <;> cases decide (L.toNat = i.toNat) <;> rfl
      · rw [cr_cons, cr_cons]
        show bt (gr _ (gr _ w)) i = _
        rw [bt_g0, bt_g1]
        cases bt w s.x <;> cases bt w i <;> cases decide (L.toNat = i.toNat) <;> rfl
theorem sg_ok {s : Stp} {L : Int} (h : SOk L s) {n : Int} (hn : 1 ≤ n ∧ n ≤ 8) (hL : L < n) : (sg s L).all (gok n) = true := by
  obtain ⟨ho, hx, h3, hy⟩ := h
  have hok : okLn n = true := by unfold okLn; rw [decide_eq_true (by omega), decide_eq_true (by omega)]; rfl
  have i8 : ∀ z : Int, 0 ≤ z ∧ z < n → in8 n z = true := fun z hz => by unfold in8; rw [decide_eq_true hz.1, decide_eq_true hz.2]; rfl
  have eL := i8 L (by omega)
  have ex := i8 s.x (by omega)
  have nx : (L != s.x) = true := by simp; omega
  have g1 : gok n ⟨1, s.x, L, 0⟩ = true := by unfold gok gokL; rw [hok]; simp [ex, eL]; omega
  unfold sg
  split
  · have := hy (by omega)
    have ey := i8 s.y (by omega)
    have g2 : gok n ⟨2, s.x, s.y, L⟩ = true := by unfold gok gokL; rw [hok]; simp [ex, ey, eL]; omega
    simp [g2]
  · split
    · have := hy (by omega)
      have ey := i8 s.y (by omega)
      have g2 : gok n ⟨2, s.x, s.y, L⟩ = true := by unfold gok gokL; rw [hok]; simp [ex, ey, eL]; omega
      have g3 : gok n ⟨1, s.y, L, 0⟩ = true := by unfold gok gokL; rw [hok]; simp [ey, eL]; omega
      simp [g1, g2, g3]
    · split
      · have := hy (by omega)
        have ey := i8 s.y (by omega)
        have g3 : gok n ⟨1, s.y, L, 0⟩ = true := by unfold gok gokL; rw [hok]; simp [ey, eL]; omega
        simp [g1, g3]
      · have g0 : gok n ⟨0, L, 0, 0⟩ = true := by unfold gok gokL; rw [hok]; simp [eL]
        simp [g1, g0]
theorem sg_len (s : Stp) (L : Int) : 1 ≤ (sg s L).length ∧ (sg s L).length ≤ 3 := by
  unfold sg; split
  · simp
  · split
    · simp
    · split <;> simp
/-- The gates of the first steps. -/
def cg (n : Int) (l : List Stp) : Nat → List Gt
  | 0 => []
  | k + 1 => cg n l k ++ sg (l.getD k Cel.no) (n + (k : Int))
theorem cg_len (n : Int) (l : List Stp) : ∀ k, (cg n l k).length ≤ 3 * k
  | 0 => Nat.le_refl _
  | k + 1 => by
    have := cg_len n l k
    have := (sg_len (l.getD k Cel.no) (n + (k : Int))).2
    rw [cg, List.length_append]; omega
theorem cg_ok {n : Int} {l : List Stp} {m : Int} (h : ∀ i, i < l.length → SOk (n + i) (l.getD i Cel.no)) (hm : 1 ≤ m ∧ m ≤ 8) : ∀ k : Nat, k ≤ l.length → n + (k : Int) ≤ m → (cg n l k).all (gok m) = true
  | 0, _, _ => rfl
  | k + 1, hk, hl => by
    rw [cg, List.all_append, cg_ok h hm k (by omega) (by omega), sg_ok (h k (by omega)) hm (by omega)]; rfl
def b2i (b : Bool) : Int := if b then 1 else 0
theorem b2i_bd (b : Bool) : 0 ≤ b2i b ∧ b2i b ≤ 1 := by cases b <;> decide
/-- The word behind the gates of the first steps. -/
def fW (n : Int) (l : List Stp) (w : Int) (k : Nat) : Int := cr (cg n l k) w
/-- The bit of a step. -/
def fB (n : Int) (l : List Stp) (w : Int) (k : Nat) : Bool := fbt (l.getD k Cel.no) (bt (fW n l w k) (l.getD k Cel.no).x) (bt (fW n l w k) (l.getD k Cel.no).y)
theorem nat_lt_of {n : Int} {w : Int} (hw : 0 ≤ w ∧ w < 2 ^ n.toNat) : w.toNat < 2 ^ n.toNat := by
  have : ((w.toNat : Nat) : Int) < ((2 ^ n.toNat : Nat) : Int) := by rw [Int.toNat_of_nonneg hw.1, Int.natCast_pow]; exact hw.2
  exact_mod_cast this
theorem bt_hi {n w i : Int} (hw : 0 ≤ w ∧ w < 2 ^ n.toNat) (hi : n ≤ i) : bt w i = false := by
  unfold bt
  have h1 := nat_lt_of hw
  exact Nat.testBit_lt_two_pow (Nat.lt_of_lt_of_le h1 (Nat.pow_le_pow_right (by omega) (by omega)))
/-- A bit above is added. -/
theorem add_bt {n w : Int} (hw : 0 ≤ w ∧ w < 2 ^ n.toNat) (i : Int) : bt (w + 2 ^ n.toNat) i = (bt w i ^^ decide (n.toNat = i.toNat)) := by
  have h1 := nat_lt_of hw
  have e : (w + 2 ^ n.toNat).toNat = 2 ^ n.toNat + w.toNat := by
    have : ((2 : Int) ^ n.toNat) = ((2 ^ n.toNat : Nat) : Int) := (Int.natCast_pow 2 _).symm
    omega
  unfold bt
  rw [e]
  by_cases h : n.toNat = i.toNat
  · rw [h] at h1 ⊢
    rw [Nat.testBit_two_pow_add_eq, decide_eq_true rfl, Bool.xor_true]
  · rw [decide_eq_false h, Bool.xor_false]
    rcases Nat.lt_or_ge i.toNat n.toNat with h2 | h2
    · rw [Nat.testBit_two_pow_add_gt h2]
    · have h3 : n.toNat < i.toNat := by omega
      rw [Nat.testBit_lt_two_pow (x := w.toNat) (Nat.lt_of_lt_of_le h1 (Nat.pow_le_pow_right (by omega) h2)), Nat.testBit_lt_two_pow]
      have : 2 ^ (n.toNat + 1) ≤ 2 ^ i.toNat := Nat.pow_le_pow_right (by omega) (by omega)
      have : 2 ^ (n.toNat + 1) = 2 ^ n.toNat + 2 ^ n.toNat := by rw [Nat.pow_succ]; omega
      omega
theorem bt_ext {a b : Int} (ha : 0 ≤ a) (hb : 0 ≤ b) (h : ∀ i : Nat, bt a (i : Int) = bt b (i : Int)) : a = b := by
  have e : a.toNat = b.toNat := Nat.eq_of_testBit_eq fun i => by simpa [bt] using h i
  omega
theorem fW_step {n : Int} {l : List Stp} {w : Int} {k : Nat} (hs : SOk (n + k) (l.getD k Cel.no)) (hn : 1 ≤ n) (hw : 0 ≤ fW n l w k ∧ fW n l w k < 2 ^ (n + (k : Int)).toNat) :
    fW n l w (k + 1) = fW n l w k + b2i (fB n l w k) * 2 ^ (n + (k : Int)).toNat := by
  have hnn : (0 : Int) < 2 ^ (n + (k : Int)).toNat := Int.pow_pos (by decide)
  have h0 : 0 ≤ fW n l w (k + 1) := by
    unfold fW
    rw [cg, cr_append]
    unfold cr
    generalize List.foldl _ _ (cg n l k) = u
    have : ∀ (c : List Gt) (u : Int), c ≠ [] → 0 ≤ List.foldl (fun w g => gr g w) u c := by
      intro c
      induction c with
      | nil => intro u h; exact absurd rfl h
      | cons g c ih =>
        intro u _
        cases c with
        | nil => exact gr_nn g u
        | cons g' c' => exact ih (gr g u) (by simp)
    exact this _ _ (fun e => by have := (sg_len (l.getD k Cel.no) (n + (k : Int))).1; rw [e] at this; simp at this)
  refine bt_ext h0 (by rcases b2i_bd (fB n l w k) with ⟨h1, h2⟩; cases hb : fB n l w k <;> simp [b2i] <;> omega) fun i => ?_
  have e1 : fW n l w (k + 1) = cr (sg (l.getD k Cel.no) (n + (k : Int))) (fW n l w k) := by unfold fW; rw [cg, cr_append]
  rw [e1, sg_bt hs]
  change (bt (fW n l w k) i ^^ (fB n l w k && _)) = _
  cases fB n l w k with
  | true => rw [show b2i true * 2 ^ (n + (k : Int)).toNat = 2 ^ (n + (k : Int)).toNat by simp [b2i], add_bt hw, Bool.true_and]
  | false => simp [b2i]
theorem fW_lt {n : Int} {l : List Stp} {w : Int} (h : ∀ i, i < l.length → SOk (n + i) (l.getD i Cel.no)) (hn : 1 ≤ n) (hw : 0 ≤ w ∧ w < 2 ^ n.toNat) : ∀ k : Nat, k ≤ l.length → 0 ≤ fW n l w k ∧ fW n l w k < 2 ^ (n + (k : Int)).toNat
  | 0, _ => by simpa [fW, cg, cr] using hw
  | k + 1, hk => by
    have ih := fW_lt h hn hw k (by omega)
    have e := fW_step (h k (by omega)) hn ih
    have hp : (2 : Int) ^ (n + ((k + 1 : Nat) : Int)).toNat = 2 ^ (n + (k : Int)).toNat * 2 := by
      rw [show (n + ((k + 1 : Nat) : Int)).toNat = (n + (k : Int)).toNat + 1 by omega, Int.pow_succ]
    rw [e, hp]
    generalize (2 : Int) ^ (n + (k : Int)).toNat = T at *
    cases fB n l w k <;> simp [b2i] <;> omega
/-- The bits of inputs and steps. -/
def bsF (n : Int) (l : List Stp) (w : Int) (k : Nat) : List Int := (List.range (n + (k : Int)).toNat).map fun i : Nat => b2i (bt (fW n l w k) (i : Int))
theorem bsF_len (n : Int) (l : List Stp) (w : Int) (k : Nat) : (bsF n l w k).length = (n + (k : Int)).toNat := by simp [bsF]
theorem bsF_get (n : Int) (l : List Stp) (w : Int) (k i : Nat) (hi : i < (n + (k : Int)).toNat) : (bsF n l w k).getD i 0 = b2i (bt (fW n l w k) (i : Int)) := by
  unfold bsF
  rw [List.getD_eq_getElem?_getD, List.getElem?_map, List.getElem?_range hi]; rfl
theorem bsF_succ {n : Int} {l : List Stp} {w : Int} {k : Nat} (hs : SOk (n + k) (l.getD k Cel.no)) (hn : 1 ≤ n) (hw : 0 ≤ fW n l w k ∧ fW n l w k < 2 ^ (n + (k : Int)).toNat) :
    bsF n l w (k + 1) = bsF n l w k ++ [b2i (fB n l w k)] := by
  have e0 : (n + ((k + 1 : Nat) : Int)).toNat = (n + (k : Int)).toNat + 1 := by omega
  have e1 : fW n l w (k + 1) = cr (sg (l.getD k Cel.no) (n + (k : Int))) (fW n l w k) := by unfold fW; rw [cg, cr_append]
  unfold bsF
  rw [e0, List.range_succ, List.map_append]
  congr 1
  · refine List.map_congr_left fun i hi => ?_
    have hi' := List.mem_range.1 hi
    rw [e1, sg_bt hs, decide_eq_false (by omega : ¬ (n + (k : Int)).toNat = (i : Int).toNat), Bool.and_false, Bool.xor_false]
  · rw [List.map_cons, List.map_nil]
    congr 2
    have hh := bt_hi (i := (((n + (k : Int)).toNat : Nat) : Int)) hw (by omega)
    rw [e1, sg_bt hs, hh, decide_eq_true (by omega : (n + (k : Int)).toNat = (((n + (k : Int)).toNat : Nat) : Int).toNat), Bool.and_true, Bool.false_xor]
    rfl
end Go.Proofs.Ytdihmpclbgbgpaa

/- Formulas: FormValid of both sides. -/
namespace Go.Proofs.Ytdihmpclbgbgpaa
set_option linter.unusedVariables false
set_option linter.unusedSimpArgs false
set_option maxRecDepth 20000
open Go.RowKit
attribute [local irreducible] runA runX AW
abbrev stV (s : Stp) : AV := .g (.agg [.v (.int .i64 s.o), .v (.int .i64 s.x), .v (.int .i64 s.y)])
abbrev stRow (l : List Stp) : Ent := rwE 65 l
theorem fok_n {n : Int} {l : List Stp} (h : btw n 1 3 = false) : fok n l = false := by unfold fok; rw [h]; rfl
theorem fok_l {n : Int} {l : List Stp} (h : btw (l.length : Int) 1 3 = false) : fok n l = false := by unfold fok; rw [h]; cases btw n 1 3 <;> rfl
theorem fokN_f {n : Int} {l : List Stp} {i : Nat} (hi : i < l.length) (h : fsOk n i (l.getD i Cel.no) = false) : fokN n l l.length = false := by
  have : ∀ m, i < m → fokN n l m = false := by
    intro m
    induction m with
    | zero => intro h; omega
    | succ m ih =>
      intro hm
      rw [fokN]
      rcases Nat.lt_or_ge i m with h1 | h1
      · rw [ih h1]; rfl
      · obtain rfl : i = m := by omega
        rw [h]; cases fokN n l i <;> rfl
  exact this _ hi
theorem fok_f {n : Int} {l : List Stp} {i : Nat} (hi : i < l.length) (h : fsOk n i (l.getD i Cel.no) = false) : fok n l = false := by
  unfold fok; rw [fokN_f hi h]; cases btw n 1 3 <;> cases btw (l.length : Int) 1 3 <;> rfl
theorem gq_KNB {H G : Prop} (k : H) (h : Hid H → G := by (intro hh; (first | (first | ((first | refine r_none ?_ | refine r_gt (by rfl) (by rfl) (by first | rfl | assumption | omega | (simp only [*, Bool.not_false, Bool.not_true]; first | done | fail) | (simp [*]; first | done | fail)) (by rfl) ?_ | refine r_gf (by rfl) (by rfl) (by first | rfl | assumption | omega | (simp only [*, Bool.not_false, Bool.not_true]; first | done | fail) | (simp [*]; first | done | fail)) (by rfl) ?_); (first | fail | ((first | (refine z_op (by rfl) ?_; first | refine z_ok ?_ ?_ | refine z_ex ?_ (by first | exact ft_raw rfl rfl | ((first | refine ft_rp rfl rfl rfl ?_ | refine ft_row rfl rfl rfl ?_ | refine ft_rpF rfl rfl rfl ?_ | refine ft_rowF rfl rfl rfl ?_ | refine up_row rfl rfl ?_ | refine up_rowF rfl rfl rfl ?_ | refine ct_0 rfl ?_ | refine ct_r rfl rfl ?_ | refine ct_c rfl rfl rfl ?_ | refine cu_all rfl ?_ | refine cu_to rfl ?_ | refine cu_from rfl ?_ | refine cu_p rfl ?_ | fail); (first | omega | (simp only [List.length_append, List.length_replicate, List.length_cons, List.length_nil, List.length_set, List.length_take, List.length_drop, true_and]; omega))) | exact up_raw rfl | exact pk_t (by first | rfl | assumption | omega | (simp only [*, Bool.not_false, Bool.not_true]; first | done | fail) | (simp [*]; first | done | fail)) rfl | exact pk_f (by first | rfl | assumption | omega | (simp only [*, Bool.not_false, Bool.not_true]; first | done | fail) | (simp [*]; first | done | fail)) rfl | fail | exact rw_raw | exact pu_cv (fun w => rfl) (by omega) | exact pu_of (fun w => rfl) rfl | exact be_of (fun w => rfl) | exact nc_of (fun _ _ _ _ => rfl) rfl | exact bu_of (fun w => rfl) rfl | fail) ?_) | ((first | refine q_callE wsT wsZ (by rfl) ?_ | refine q_callVE wsT (by rfl) (by rfl) ?_); refine ⟨_, _, _, (by first | assumption | exact k_within _ _ _ | exact k_l1In _ _ _), _, by rfl, ?_, ?_⟩)); focus (first | exact trivial | fail | exact rfl | (first | omega | (simp only [List.length_append, List.length_replicate, List.length_cons, List.length_nil, List.length_set, List.length_take, List.length_drop, true_and]; omega)) | exact cvB (fun w => rfl) | ((repeat' (first | exact rfl | exact cV_len _ | exact cV_ln rfl (by omega) | exact Cel.pos | omega | exact trivial | refine And.intro ?_ ?_)); done) | (simp [*]; done) | (simp; omega))) | fail)) | refine r_nt (by rfl) (by rfl) (by first | rfl | assumption | omega | (simp only [*, Bool.not_false, Bool.not_true]; first | done | fail) | (simp [*]; first | done | fail)) (by rfl) ?_ | refine r_nf (by rfl) (by rfl) (by first | rfl | assumption | omega | (simp only [*, Bool.not_false, Bool.not_true]; first | done | fail) | (simp [*]; first | done | fail)) (by rfl) ?_ | refine r_gu (by rfl) (by rfl) (by rfl) ?_ | refine r_nil ?_) | (first | refine aw_seq ?_ | refine aw_ct (by rfl) (by first | rfl | assumption | omega | (simp only [*, Bool.not_false, Bool.not_true]; first | done | fail) | (simp [*]; first | done | fail)) ?_ | refine aw_cf (by rfl) (by first | rfl | assumption | omega | (simp only [*, Bool.not_false, Bool.not_true]; first | done | fail) | (simp [*]; first | done | fail)) ?_ | refine aw_block ?_ | refine aw_region T0ok cfU_ok (by rfl) ?_ | refine aw_skip ?_ | refine aw_exit ?_ | refine ra_step ?_)); (repeat (first | (first | ((first | refine r_none ?_ | refine r_gt (by rfl) (by rfl) (by first | rfl | assumption | omega | (simp only [*, Bool.not_false, Bool.not_true]; first | done | fail) | (simp [*]; first | done | fail)) (by rfl) ?_ | refine r_gf (by rfl) (by rfl) (by first | rfl | assumption | omega | (simp only [*, Bool.not_false, Bool.not_true]; first | done | fail) | (simp [*]; first | done | fail)) (by rfl) ?_); (first | fail | ((first | (refine z_op (by rfl) ?_; first | refine z_ok ?_ ?_ | refine z_ex ?_ (by first | exact ft_raw rfl rfl | ((first | refine ft_rp rfl rfl rfl ?_ | refine ft_row rfl rfl rfl ?_ | refine ft_rpF rfl rfl rfl ?_ | refine ft_rowF rfl rfl rfl ?_ | refine up_row rfl rfl ?_ | refine up_rowF rfl rfl rfl ?_ | refine ct_0 rfl ?_ | refine ct_r rfl rfl ?_ | refine ct_c rfl rfl rfl ?_ | refine cu_all rfl ?_ | refine cu_to rfl ?_ | refine cu_from rfl ?_ | refine cu_p rfl ?_ | fail); (first | omega | (simp only [List.length_append, List.length_replicate, List.length_cons, List.length_nil, List.length_set, List.length_take, List.length_drop, true_and]; omega))) | exact up_raw rfl | exact pk_t (by first | rfl | assumption | omega | (simp only [*, Bool.not_false, Bool.not_true]; first | done | fail) | (simp [*]; first | done | fail)) rfl | exact pk_f (by first | rfl | assumption | omega | (simp only [*, Bool.not_false, Bool.not_true]; first | done | fail) | (simp [*]; first | done | fail)) rfl | fail | exact rw_raw | exact pu_cv (fun w => rfl) (by omega) | exact pu_of (fun w => rfl) rfl | exact be_of (fun w => rfl) | exact nc_of (fun _ _ _ _ => rfl) rfl | exact bu_of (fun w => rfl) rfl | fail) ?_) | ((first | refine q_callE wsT wsZ (by rfl) ?_ | refine q_callVE wsT (by rfl) (by rfl) ?_); refine ⟨_, _, _, (by first | assumption | exact k_within _ _ _ | exact k_l1In _ _ _), _, by rfl, ?_, ?_⟩)); focus (first | exact trivial | fail | exact rfl | (first | omega | (simp only [List.length_append, List.length_replicate, List.length_cons, List.length_nil, List.length_set, List.length_take, List.length_drop, true_and]; omega)) | exact cvB (fun w => rfl) | ((repeat' (first | exact rfl | exact cV_len _ | exact cV_ln rfl (by omega) | exact Cel.pos | omega | exact trivial | refine And.intro ?_ ?_)); done) | (simp [*]; done) | (simp; omega))) | fail)) | refine r_nt (by rfl) (by rfl) (by first | rfl | assumption | omega | (simp only [*, Bool.not_false, Bool.not_true]; first | done | fail) | (simp [*]; first | done | fail)) (by rfl) ?_ | refine r_nf (by rfl) (by rfl) (by first | rfl | assumption | omega | (simp only [*, Bool.not_false, Bool.not_true]; first | done | fail) | (simp [*]; first | done | fail)) (by rfl) ?_ | refine r_gu (by rfl) (by rfl) (by rfl) ?_ | refine r_nil ?_) | (first | refine aw_seq ?_ | refine aw_ct (by rfl) (by first | rfl | assumption | omega | (simp only [*, Bool.not_false, Bool.not_true]; first | done | fail) | (simp [*]; first | done | fail)) ?_ | refine aw_cf (by rfl) (by first | rfl | assumption | omega | (simp only [*, Bool.not_false, Bool.not_true]; first | done | fail) | (simp [*]; first | done | fail)) ?_ | refine aw_block ?_ | refine aw_region T0ok cfU_ok (by rfl) ?_ | refine aw_skip ?_ | refine aw_exit ?_ | refine ra_step ?_))); exact hh.out)) : G := h ⟨k⟩
theorem ga_KNB {H G : Prop} (k : H) (h : Hid H → G := by (intro hh; (first | refine r_none ?_ | refine r_gt (by rfl) (by rfl) (by first | rfl | assumption | omega | (simp only [*, Bool.not_false, Bool.not_true]; first | done | fail) | (simp [*]; first | done | fail)) (by rfl) ?_ | refine r_gf (by rfl) (by rfl) (by first | rfl | assumption | omega | (simp only [*, Bool.not_false, Bool.not_true]; first | done | fail) | (simp [*]; first | done | fail)) (by rfl) ?_); refine z_op (by rfl) ?_; refine z_al ?_ hh.out; focus (first | exact trivial | fail | exact rfl | (first | omega | (simp only [List.length_append, List.length_replicate, List.length_cons, List.length_nil, List.length_set, List.length_take, List.length_drop, true_and]; omega)) | exact cvB (fun w => rfl) | ((repeat' (first | exact rfl | exact cV_len _ | exact cV_ln rfl (by omega) | exact Cel.pos | omega | exact trivial | refine And.intro ?_ ?_)); done) | (simp [*]; done) | (simp; omega)))) : G := h ⟨k⟩
set_option maxHeartbeats 2000000 in
theorem k_fv (n : Int) (l : List Stp) (h : l.length ≤ 1000) (hr : -1000 ≤ n ∧ n ≤ 1000) : Kon Try.prog 25 [vI n, roA l] [] (vB (fok n l)) [] [] := by
  (refine kon_mk T0ok (fn := Try.f25) (c := Try.f25.body.get rfl) Try.func25 rfl (by rfl) (by rfl) (by rfl) ?_; intro hfit hfe)
  cases h1 : btw n 1 3 with
  | false =>
    rw [fok_n h1]
    (repeat (first | refine gq_KNB ?_ | (refine ga_KNB ?_; intro _q ⟨_he, _hq⟩)))
    ((try refine aw_ret ?_); refine ret_auto2 (by rfl) (by rfl) (by rfl) (by repeat (first | exact trivial | refine ⟨by first | rfl | omega, ?_⟩)) ?_ (by repeat (first | exact trivial | refine ⟨by rfl, by rfl, ?_⟩)) (by repeat (first | exact trivial | refine ⟨by rfl, by rfl, ?_⟩)); try rfl)
  | true =>
    cases h2 : btw (l.length : Int) 1 3 with
    | false =>
      rw [fok_l h2]
      (repeat (first | refine gq_KNB ?_ | (refine ga_KNB ?_; intro _q ⟨_he, _hq⟩)))
      ((try refine aw_ret ?_); refine ret_auto2 (by rfl) (by rfl) (by rfl) (by repeat (first | exact trivial | refine ⟨by first | rfl | omega, ?_⟩)) ?_ (by repeat (first | exact trivial | refine ⟨by rfl, by rfl, ?_⟩)) (by repeat (first | exact trivial | refine ⟨by rfl, by rfl, ?_⟩)); try rfl)
    | true =>
      (repeat (first | refine gq_KNB ?_ | (refine ga_KNB ?_; intro _q ⟨_he, _hq⟩)))
      (refine aw_rd [0, 1, 4, 17, 18] [] (fun i : Nat => [(19, vI i)]) (fun i => []) (fun i => i ≤ l.length ∧ fokN n l i = true) (fun i => l.length - i) 0 (by rfl) (by rfl) ?_ (by rfl) (by repeat (first | exact trivial | refine ⟨by rfl, ?_⟩ | refine ⟨vI_of (by rfl) (by omega), ?_⟩)) (by repeat (first | exact trivial | refine ⟨by rfl, ?_⟩ | refine ⟨vI_of (by rfl) (by omega), ?_⟩)) ?_)
      · exact ⟨Nat.zero_le _, rfl⟩
      rintro i ⟨hi, hk⟩
      rcases Nat.lt_or_ge i l.length with h6 | h6
      · have hd : decide ((i : Int) < (l.length : Int)) = true := decide_eq_true (by omega)
        have hff := @fok_f n l i h6
        have hfs : fokN n l (i + 1) = (fokN n l i && fsOk n i (l.getD i Cel.no)) := rfl
        rw [hk, Bool.true_and] at hfs
        unfold fsOk at hff hfs
        obtain ⟨s, hs⟩ : ∃ s, l.getD (i : Int).toNat (Cel.no : Stp) = s := ⟨_, rfl⟩
        have hs' : l.getD i Cel.no = s := hs
        rw [hs'] at hff hfs
        clear hs'
        (repeat (first | refine gq_KNB ?_ | (refine ga_KNB ?_; intro _q ⟨_he, _hq⟩)))
        rw [hs]
        cases c1 : btw s.o 0 3 with
        | false =>
          rw [hff (by rw [c1]; rfl)]
          (repeat (first | refine gq_KNB ?_ | (refine ga_KNB ?_; intro _q ⟨_he, _hq⟩)))
          ((try refine aw_ret ?_); refine ret_auto2 (by rfl) (by rfl) (by rfl) (by repeat (first | exact trivial | refine ⟨by first | rfl | omega, ?_⟩)) ?_ (by repeat (first | exact trivial | refine ⟨by rfl, by rfl, ?_⟩)) (by repeat (first | exact trivial | refine ⟨by rfl, by rfl, ?_⟩)); try rfl)
        | true =>
          cases c2 : btw s.x 0 (n + (i : Int) - 1) with
          | false =>
            rw [hff (by rw [c1, c2]; rfl)]
            (repeat (first | refine gq_KNB ?_ | (refine ga_KNB ?_; intro _q ⟨_he, _hq⟩)))
            ((try refine aw_ret ?_); refine ret_auto2 (by rfl) (by rfl) (by rfl) (by repeat (first | exact trivial | refine ⟨by first | rfl | omega, ?_⟩)) ?_ (by repeat (first | exact trivial | refine ⟨by rfl, by rfl, ?_⟩)) (by repeat (first | exact trivial | refine ⟨by rfl, by rfl, ?_⟩)); try rfl)
          | true =>
            rw [c1, c2, Bool.true_and, Bool.true_and] at hff hfs
            by_cases c3 : s.o = 3
            · rw [if_pos c3] at hff hfs
              have d1 : (s.o == 3) = true := by simp [c3]
              have d2 : (s.o != 3) = false := by simp [c3]
              clear c3
              cases c4 : (s.y != 0) with
              | true =>
                rw [hff (by simpa using c4)]
                (repeat (first | refine gq_KNB ?_ | (refine ga_KNB ?_; intro _q ⟨_he, _hq⟩)))
                ((try refine aw_ret ?_); refine ret_auto2 (by rfl) (by rfl) (by rfl) (by repeat (first | exact trivial | refine ⟨by first | rfl | omega, ?_⟩)) ?_ (by repeat (first | exact trivial | refine ⟨by rfl, by rfl, ?_⟩)) (by repeat (first | exact trivial | refine ⟨by rfl, by rfl, ?_⟩)); try rfl)
              | false =>
                have hn : fokN n l (i + 1) = true := hfs.trans (by simpa using c4)
                (repeat (first | refine gq_KNB ?_ | (refine ga_KNB ?_; intro _q ⟨_he, _hq⟩)))
                exact ⟨i + 1, ⟨h6, hn⟩, ⟨by rfl, (by repeat (first | exact trivial | refine ⟨by rfl, ?_⟩ | refine ⟨vI_of (by rfl) (by omega), ?_⟩)), (by repeat (first | exact trivial | refine ⟨by rfl, ?_⟩ | refine ⟨vI_of (by rfl) (by omega), ?_⟩))⟩, (by first | omega | (dsimp only; omega))⟩
            · rw [if_neg c3] at hff hfs
              have d1 : (s.o == 3) = false := by simp [c3]
              have d2 : (s.o != 3) = true := by simp [c3]
              clear c3
              cases c4 : btw s.y 0 (n + (i : Int) - 1) with
              | false =>
                rw [hff (by rw [c4]; rfl)]
                (repeat (first | refine gq_KNB ?_ | (refine ga_KNB ?_; intro _q ⟨_he, _hq⟩)))
                ((try refine aw_ret ?_); refine ret_auto2 (by rfl) (by rfl) (by rfl) (by repeat (first | exact trivial | refine ⟨by first | rfl | omega, ?_⟩)) ?_ (by repeat (first | exact trivial | refine ⟨by rfl, by rfl, ?_⟩)) (by repeat (first | exact trivial | refine ⟨by rfl, by rfl, ?_⟩)); try rfl)
              | true =>
                rw [c4, Bool.true_and] at hff hfs
                cases c5 : (s.y == s.x) with
                | true =>
                  rw [hff (by simpa using c5)]
                  (repeat (first | refine gq_KNB ?_ | (refine ga_KNB ?_; intro _q ⟨_he, _hq⟩)))
                  ((try refine aw_ret ?_); refine ret_auto2 (by rfl) (by rfl) (by rfl) (by repeat (first | exact trivial | refine ⟨by first | rfl | omega, ?_⟩)) ?_ (by repeat (first | exact trivial | refine ⟨by rfl, by rfl, ?_⟩)) (by repeat (first | exact trivial | refine ⟨by rfl, by rfl, ?_⟩)); try rfl)
                | false =>
                  have hn : fokN n l (i + 1) = true := hfs.trans (by rw [bne, c5]; rfl)
                  (repeat (first | refine gq_KNB ?_ | (refine ga_KNB ?_; intro _q ⟨_he, _hq⟩)))
                  exact ⟨i + 1, ⟨h6, hn⟩, ⟨by rfl, (by repeat (first | exact trivial | refine ⟨by rfl, ?_⟩ | refine ⟨vI_of (by rfl) (by omega), ?_⟩)), (by repeat (first | exact trivial | refine ⟨by rfl, ?_⟩ | refine ⟨vI_of (by rfl) (by omega), ?_⟩))⟩, (by first | omega | (dsimp only; omega))⟩
      · obtain rfl : i = l.length := by omega
        have hd : decide ((l.length : Int) < (l.length : Int)) = false := decide_eq_false (by omega)
        rw [show fok n l = true by unfold fok; rw [h1, h2, hk]; rfl]
        (repeat (first | refine gq_KNB ?_ | (refine ga_KNB ?_; intro _q ⟨_he, _hq⟩)))
        ((try refine aw_ret ?_); refine ret_auto2 (by rfl) (by rfl) (by rfl) (by repeat (first | exact trivial | refine ⟨by first | rfl | omega, ?_⟩)) ?_ (by repeat (first | exact trivial | refine ⟨by rfl, by rfl, ?_⟩)) (by repeat (first | exact trivial | refine ⟨by rfl, by rfl, ?_⟩)); try rfl)
set_option maxHeartbeats 2000000 in
theorem k_fvS (n : Int) (l : List Stp) (h : l.length ≤ 1000) (hr : -1000 ≤ n ∧ n ≤ 1000) : Kon Try.prog 13 [vI n, roA l] [] (vB (fok n l)) [] [] := by
  (refine kon_mk T0ok (fn := Try.f13) (c := Try.f13.body.get rfl) Try.func13 rfl (by rfl) (by rfl) (by rfl) ?_; intro hfit hfe)
  cases h1 : btw n 1 3 with
  | false =>
    rw [fok_n h1]
    (repeat (first | refine gq_KNB ?_ | (refine ga_KNB ?_; intro _q ⟨_he, _hq⟩)))
    ((try refine aw_ret ?_); refine ret_auto2 (by rfl) (by rfl) (by rfl) (by repeat (first | exact trivial | refine ⟨by first | rfl | omega, ?_⟩)) ?_ (by repeat (first | exact trivial | refine ⟨by rfl, by rfl, ?_⟩)) (by repeat (first | exact trivial | refine ⟨by rfl, by rfl, ?_⟩)); try rfl)
  | true =>
    cases h2 : btw (l.length : Int) 1 3 with
    | false =>
      rw [fok_l h2]
      (repeat (first | refine gq_KNB ?_ | (refine ga_KNB ?_; intro _q ⟨_he, _hq⟩)))
      ((try refine aw_ret ?_); refine ret_auto2 (by rfl) (by rfl) (by rfl) (by repeat (first | exact trivial | refine ⟨by first | rfl | omega, ?_⟩)) ?_ (by repeat (first | exact trivial | refine ⟨by rfl, by rfl, ?_⟩)) (by repeat (first | exact trivial | refine ⟨by rfl, by rfl, ?_⟩)); try rfl)
    | true =>
      (repeat (first | refine gq_KNB ?_ | (refine ga_KNB ?_; intro _q ⟨_he, _hq⟩)))
      (refine aw_rd [0, 1, 4] [] (fun i : Nat => [(5, vI i)]) (fun i => []) (fun i => i ≤ l.length ∧ fokN n l i = true) (fun i => l.length - i) 0 (by rfl) (by rfl) ?_ (by rfl) (by repeat (first | exact trivial | refine ⟨by rfl, ?_⟩ | refine ⟨vI_of (by rfl) (by omega), ?_⟩)) (by repeat (first | exact trivial | refine ⟨by rfl, ?_⟩ | refine ⟨vI_of (by rfl) (by omega), ?_⟩)) ?_)
      · exact ⟨Nat.zero_le _, rfl⟩
      rintro i ⟨hi, hk⟩
      rcases Nat.lt_or_ge i l.length with h6 | h6
      · have hd : decide ((i : Int) < (l.length : Int)) = true := decide_eq_true (by omega)
        have hff := @fok_f n l i h6
        have hfs : fokN n l (i + 1) = (fokN n l i && fsOk n i (l.getD i Cel.no)) := rfl
        rw [hk, Bool.true_and] at hfs
        unfold fsOk at hff hfs
        obtain ⟨s, hs⟩ : ∃ s, l.getD (i : Int).toNat (Cel.no : Stp) = s := ⟨_, rfl⟩
        have hs' : l.getD i Cel.no = s := hs
        rw [hs'] at hff hfs
        clear hs'
        (repeat (first | refine gq_KNB ?_ | (refine ga_KNB ?_; intro _q ⟨_he, _hq⟩)))
        rw [hs]
        cases c1 : btw s.o 0 3 with
        | false =>
          rw [hff (by rw [c1]; rfl)]
          (repeat (first | refine gq_KNB ?_ | (refine ga_KNB ?_; intro _q ⟨_he, _hq⟩)))
          ((try refine aw_ret ?_); refine ret_auto2 (by rfl) (by rfl) (by rfl) (by repeat (first | exact trivial | refine ⟨by first | rfl | omega, ?_⟩)) ?_ (by repeat (first | exact trivial | refine ⟨by rfl, by rfl, ?_⟩)) (by repeat (first | exact trivial | refine ⟨by rfl, by rfl, ?_⟩)); try rfl)
        | true =>
          cases c2 : btw s.x 0 (n + (i : Int) - 1) with
          | false =>
            rw [hff (by rw [c1, c2]; rfl)]
            (repeat (first | refine gq_KNB ?_ | (refine ga_KNB ?_; intro _q ⟨_he, _hq⟩)))
            ((try refine aw_ret ?_); refine ret_auto2 (by rfl) (by rfl) (by rfl) (by repeat (first | exact trivial | refine ⟨by first | rfl | omega, ?_⟩)) ?_ (by repeat (first | exact trivial | refine ⟨by rfl, by rfl, ?_⟩)) (by repeat (first | exact trivial | refine ⟨by rfl, by rfl, ?_⟩)); try rfl)
          | true =>
            rw [c1, c2, Bool.true_and, Bool.true_and] at hff hfs
            by_cases c3 : s.o = 3
            · rw [if_pos c3] at hff hfs
              have d1 : (s.o == 3) = true := by simp [c3]
              have d2 : (s.o != 3) = false := by simp [c3]
              clear c3
              cases c4 : (s.y != 0) with
              | true =>
                rw [hff (by simpa using c4)]
                (repeat (first | refine gq_KNB ?_ | (refine ga_KNB ?_; intro _q ⟨_he, _hq⟩)))
                ((try refine aw_ret ?_); refine ret_auto2 (by rfl) (by rfl) (by rfl) (by repeat (first | exact trivial | refine ⟨by first | rfl | omega, ?_⟩)) ?_ (by repeat (first | exact trivial | refine ⟨by rfl, by rfl, ?_⟩)) (by repeat (first | exact trivial | refine ⟨by rfl, by rfl, ?_⟩)); try rfl)
              | false =>
                have hn : fokN n l (i + 1) = true := hfs.trans (by simpa using c4)
                (repeat (first | refine gq_KNB ?_ | (refine ga_KNB ?_; intro _q ⟨_he, _hq⟩)))
                exact ⟨i + 1, ⟨h6, hn⟩, ⟨by rfl, (by repeat (first | exact trivial | refine ⟨by rfl, ?_⟩ | refine ⟨vI_of (by rfl) (by omega), ?_⟩)), (by repeat (first | exact trivial | refine ⟨by rfl, ?_⟩ | refine ⟨vI_of (by rfl) (by omega), ?_⟩))⟩, (by first | omega | (dsimp only; omega))⟩
            · rw [if_neg c3] at hff hfs
              have d1 : (s.o == 3) = false := by simp [c3]
              have d2 : (s.o != 3) = true := by simp [c3]
              clear c3
              cases c4 : btw s.y 0 (n + (i : Int) - 1) with
              | false =>
                rw [hff (by rw [c4]; rfl)]
                (repeat (first | refine gq_KNB ?_ | (refine ga_KNB ?_; intro _q ⟨_he, _hq⟩)))
                ((try refine aw_ret ?_); refine ret_auto2 (by rfl) (by rfl) (by rfl) (by repeat (first | exact trivial | refine ⟨by first | rfl | omega, ?_⟩)) ?_ (by repeat (first | exact trivial | refine ⟨by rfl, by rfl, ?_⟩)) (by repeat (first | exact trivial | refine ⟨by rfl, by rfl, ?_⟩)); try rfl)
              | true =>
                rw [c4, Bool.true_and] at hff hfs
                cases c5 : (s.x == s.y) with
                | true =>
                  rw [hff (by have := of_decide_eq_true c5; simp [this])]
                  (repeat (first | refine gq_KNB ?_ | (refine ga_KNB ?_; intro _q ⟨_he, _hq⟩)))
                  ((try refine aw_ret ?_); refine ret_auto2 (by rfl) (by rfl) (by rfl) (by repeat (first | exact trivial | refine ⟨by first | rfl | omega, ?_⟩)) ?_ (by repeat (first | exact trivial | refine ⟨by rfl, by rfl, ?_⟩)) (by repeat (first | exact trivial | refine ⟨by rfl, by rfl, ?_⟩)); try rfl)
                | false =>
                  have hn : fokN n l (i + 1) = true := hfs.trans (by simp at c5 ⊢; omega)
                  (repeat (first | refine gq_KNB ?_ | (refine ga_KNB ?_; intro _q ⟨_he, _hq⟩)))
                  exact ⟨i + 1, ⟨h6, hn⟩, ⟨by rfl, (by repeat (first | exact trivial | refine ⟨by rfl, ?_⟩ | refine ⟨vI_of (by rfl) (by omega), ?_⟩)), (by repeat (first | exact trivial | refine ⟨by rfl, ?_⟩ | refine ⟨vI_of (by rfl) (by omega), ?_⟩))⟩, (by first | omega | (dsimp only; omega))⟩
      · obtain rfl : i = l.length := by omega
        have hd : decide ((l.length : Int) < (l.length : Int)) = false := decide_eq_false (by omega)
        rw [show fok n l = true by unfold fok; rw [h1, h2, hk]; rfl]
        (repeat (first | refine gq_KNB ?_ | (refine ga_KNB ?_; intro _q ⟨_he, _hq⟩)))
        ((try refine aw_ret ?_); refine ret_auto2 (by rfl) (by rfl) (by rfl) (by repeat (first | exact trivial | refine ⟨by first | rfl | omega, ?_⟩)) ?_ (by repeat (first | exact trivial | refine ⟨by rfl, by rfl, ?_⟩)) (by repeat (first | exact trivial | refine ⟨by rfl, by rfl, ?_⟩)); try rfl)
end Go.Proofs.Ytdihmpclbgbgpaa
