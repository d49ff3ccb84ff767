/- KGH, KGM, DT, EQ, ED, DM: laid into one text. -/
import Derived.Test.YtgphlcdinejmdaaDoorQTE
import Derived.Test.YtgphlcdinejmdaaDoorQTF
import Derived.Test.YtgphlcdinejmdaaDoorQTG
import Derived.ChangeKeysEq

/- The reference's gates: lines, valid gates, what they make of words. -/
namespace Go.Proofs.YtgphlcdinejmdaaDoor
set_option linter.unusedVariables false
set_option linter.unusedSimpArgs false
set_option maxRecDepth 20000
open Go.RowKit
attribute [local irreducible] runA runX AW
theorem gq_KGH {H G : Prop} (k : H) (h : Hid H → G := by (intro hh; (first | (first | ((first | refine r_none ?_ | refine r_gt (by rfl) (by rfl) (by first | rfl | assumption | omega | (simp only [*, Bool.not_false, Bool.not_true]; first | done | fail) | (simp [*]; first | done | fail)) (by rfl) ?_ | refine r_gf (by rfl) (by rfl) (by first | rfl | assumption | omega | (simp only [*, Bool.not_false, Bool.not_true]; first | done | fail) | (simp [*]; first | done | fail)) (by rfl) ?_); (first | fail | ((first | (refine z_op (by rfl) ?_; first | refine z_ok ?_ ?_ | refine z_ex ?_ (by first | exact ft_raw rfl rfl | ((first | refine ft_rp rfl rfl rfl ?_ | refine ft_row rfl rfl rfl ?_ | refine ft_rpF rfl rfl rfl ?_ | refine ft_rowF rfl rfl rfl ?_ | refine up_row rfl rfl ?_ | refine up_rowF rfl rfl rfl ?_ | refine ct_0 rfl ?_ | refine ct_r rfl rfl ?_ | refine ct_c rfl rfl rfl ?_ | refine cu_all rfl ?_ | refine cu_to rfl ?_ | refine cu_from rfl ?_ | refine cu_p rfl ?_ | fail); (first | omega | (simp only [List.length_append, List.length_replicate, List.length_cons, List.length_nil, List.length_set, List.length_take, List.length_drop, true_and]; omega))) | exact up_raw rfl | exact pk_t (by first | rfl | assumption | omega | (simp only [*, Bool.not_false, Bool.not_true]; first | done | fail) | (simp [*]; first | done | fail)) rfl | exact pk_f (by first | rfl | assumption | omega | (simp only [*, Bool.not_false, Bool.not_true]; first | done | fail) | (simp [*]; first | done | fail)) rfl | exact rw_c Int rfl | exact rw_raw | exact pu_cv (fun w => rfl) (by omega) | exact pu_of (fun w => rfl) rfl | exact be_of (fun w => rfl) | exact nc_of (fun _ _ _ _ => rfl) rfl | exact bu_of (fun w => rfl) rfl | fail) ?_) | ((first | refine q_callE wsT wsZ (by rfl) ?_ | refine q_callVE wsT (by rfl) (by rfl) ?_); refine ⟨_, _, _, (by first | assumption | exact k_l1In _ _ _ | exact k_linesS _ | exact k_has _ _ (by omega) | exact k_wvS2 _ _ | exact k_bitS _ _ (by omega) | exact k_turnS _ _ (by omega)), _, by rfl, ?_, ?_⟩)); focus (first | exact trivial | fail | exact rfl | (first | omega | (simp only [List.length_append, List.length_replicate, List.length_cons, List.length_nil, List.length_set, List.length_take, List.length_drop, true_and]; omega)) | exact cvB (fun w => rfl) | ((repeat' (first | exact rfl | exact cV_len _ | exact cV_ln rfl (by omega) | exact Cel.pos | omega | exact trivial | refine And.intro ?_ ?_)); done) | (simp [*]; done) | (simp; omega))) | fail)) | refine r_nt (by rfl) (by rfl) (by first | rfl | assumption | omega | (simp only [*, Bool.not_false, Bool.not_true]; first | done | fail) | (simp [*]; first | done | fail)) (by rfl) ?_ | refine r_nf (by rfl) (by rfl) (by first | rfl | assumption | omega | (simp only [*, Bool.not_false, Bool.not_true]; first | done | fail) | (simp [*]; first | done | fail)) (by rfl) ?_ | refine r_gu (by rfl) (by rfl) (by rfl) ?_ | refine r_nil ?_) | (first | refine aw_seq ?_ | refine aw_ct (by rfl) (by first | rfl | assumption | omega | (simp only [*, Bool.not_false, Bool.not_true]; first | done | fail) | (simp [*]; first | done | fail)) ?_ | refine aw_cf (by rfl) (by first | rfl | assumption | omega | (simp only [*, Bool.not_false, Bool.not_true]; first | done | fail) | (simp [*]; first | done | fail)) ?_ | refine aw_block ?_ | refine aw_region T0ok cfU_ok (by rfl) ?_ | refine aw_skip ?_ | refine aw_exit ?_ | refine ra_step ?_)); (repeat (first | (first | ((first | refine r_none ?_ | refine r_gt (by rfl) (by rfl) (by first | rfl | assumption | omega | (simp only [*, Bool.not_false, Bool.not_true]; first | done | fail) | (simp [*]; first | done | fail)) (by rfl) ?_ | refine r_gf (by rfl) (by rfl) (by first | rfl | assumption | omega | (simp only [*, Bool.not_false, Bool.not_true]; first | done | fail) | (simp [*]; first | done | fail)) (by rfl) ?_); (first | fail | ((first | (refine z_op (by rfl) ?_; first | refine z_ok ?_ ?_ | refine z_ex ?_ (by first | exact ft_raw rfl rfl | ((first | refine ft_rp rfl rfl rfl ?_ | refine ft_row rfl rfl rfl ?_ | refine ft_rpF rfl rfl rfl ?_ | refine ft_rowF rfl rfl rfl ?_ | refine up_row rfl rfl ?_ | refine up_rowF rfl rfl rfl ?_ | refine ct_0 rfl ?_ | refine ct_r rfl rfl ?_ | refine ct_c rfl rfl rfl ?_ | refine cu_all rfl ?_ | refine cu_to rfl ?_ | refine cu_from rfl ?_ | refine cu_p rfl ?_ | fail); (first | omega | (simp only [List.length_append, List.length_replicate, List.length_cons, List.length_nil, List.length_set, List.length_take, List.length_drop, true_and]; omega))) | exact up_raw rfl | exact pk_t (by first | rfl | assumption | omega | (simp only [*, Bool.not_false, Bool.not_true]; first | done | fail) | (simp [*]; first | done | fail)) rfl | exact pk_f (by first | rfl | assumption | omega | (simp only [*, Bool.not_false, Bool.not_true]; first | done | fail) | (simp [*]; first | done | fail)) rfl | exact rw_c Int rfl | exact rw_raw | exact pu_cv (fun w => rfl) (by omega) | exact pu_of (fun w => rfl) rfl | exact be_of (fun w => rfl) | exact nc_of (fun _ _ _ _ => rfl) rfl | exact bu_of (fun w => rfl) rfl | fail) ?_) | ((first | refine q_callE wsT wsZ (by rfl) ?_ | refine q_callVE wsT (by rfl) (by rfl) ?_); refine ⟨_, _, _, (by first | assumption | exact k_l1In _ _ _ | exact k_linesS _ | exact k_has _ _ (by omega) | exact k_wvS2 _ _ | exact k_bitS _ _ (by omega) | exact k_turnS _ _ (by omega)), _, by rfl, ?_, ?_⟩)); focus (first | exact trivial | fail | exact rfl | (first | omega | (simp only [List.length_append, List.length_replicate, List.length_cons, List.length_nil, List.length_set, List.length_take, List.length_drop, true_and]; omega)) | exact cvB (fun w => rfl) | ((repeat' (first | exact rfl | exact cV_len _ | exact cV_ln rfl (by omega) | exact Cel.pos | omega | exact trivial | refine And.intro ?_ ?_)); done) | (simp [*]; done) | (simp; omega))) | fail)) | refine r_nt (by rfl) (by rfl) (by first | rfl | assumption | omega | (simp only [*, Bool.not_false, Bool.not_true]; first | done | fail) | (simp [*]; first | done | fail)) (by rfl) ?_ | refine r_nf (by rfl) (by rfl) (by first | rfl | assumption | omega | (simp only [*, Bool.not_false, Bool.not_true]; first | done | fail) | (simp [*]; first | done | fail)) (by rfl) ?_ | refine r_gu (by rfl) (by rfl) (by rfl) ?_ | refine r_nil ?_) | (first | refine aw_seq ?_ | refine aw_ct (by rfl) (by first | rfl | assumption | omega | (simp only [*, Bool.not_false, Bool.not_true]; first | done | fail) | (simp [*]; first | done | fail)) ?_ | refine aw_cf (by rfl) (by first | rfl | assumption | omega | (simp only [*, Bool.not_false, Bool.not_true]; first | done | fail) | (simp [*]; first | done | fail)) ?_ | refine aw_block ?_ | refine aw_region T0ok cfU_ok (by rfl) ?_ | refine aw_skip ?_ | refine aw_exit ?_ | refine ra_step ?_))); exact hh.out)) : G := h ⟨k⟩
theorem ga_KGH {H G : Prop} (k : H) (h : Hid H → G := by (intro hh; (first | refine r_none ?_ | refine r_gt (by rfl) (by rfl) (by first | rfl | assumption | omega | (simp only [*, Bool.not_false, Bool.not_true]; first | done | fail) | (simp [*]; first | done | fail)) (by rfl) ?_ | refine r_gf (by rfl) (by rfl) (by first | rfl | assumption | omega | (simp only [*, Bool.not_false, Bool.not_true]; first | done | fail) | (simp [*]; first | done | fail)) (by rfl) ?_); refine z_op (by rfl) ?_; refine z_alV ?_ hh.out; focus (first | exact trivial | fail | exact rfl | (first | omega | (simp only [List.length_append, List.length_replicate, List.length_cons, List.length_nil, List.length_set, List.length_take, List.length_drop, true_and]; omega)) | exact cvB (fun w => rfl) | ((repeat' (first | exact rfl | exact cV_len _ | exact cV_ln rfl (by omega) | exact Cel.pos | omega | exact trivial | refine And.intro ?_ ?_)); done) | (simp [*]; done) | (simp; omega)))) : G := h ⟨k⟩
theorem gs_KGH {H G : Prop} (k : H) (h : Hid H → G := by (intro hh; (first | ((first | refine r_none ?_ | refine r_gt (by rfl) (by rfl) (by first | rfl | assumption | omega | (simp only [*, Bool.not_false, Bool.not_true]; first | done | fail) | (simp [*]; first | done | fail)) (by rfl) ?_ | refine r_gf (by rfl) (by rfl) (by first | rfl | assumption | omega | (simp only [*, Bool.not_false, Bool.not_true]; first | done | fail) | (simp [*]; first | done | fail)) (by rfl) ?_); (first | fail | ((first | (refine z_op (by rfl) ?_; first | refine z_ok ?_ ?_ | refine z_ex ?_ (by first | exact ft_raw rfl rfl | ((first | refine ft_rp rfl rfl rfl ?_ | refine ft_row rfl rfl rfl ?_ | refine ft_rpF rfl rfl rfl ?_ | refine ft_rowF rfl rfl rfl ?_ | refine up_row rfl rfl ?_ | refine up_rowF rfl rfl rfl ?_ | refine ct_0 rfl ?_ | refine ct_r rfl rfl ?_ | refine ct_c rfl rfl rfl ?_ | refine cu_all rfl ?_ | refine cu_to rfl ?_ | refine cu_from rfl ?_ | refine cu_p rfl ?_ | fail); (first | omega | (simp only [List.length_append, List.length_replicate, List.length_cons, List.length_nil, List.length_set, List.length_take, List.length_drop, true_and]; omega))) | exact up_raw rfl | exact pk_t (by first | rfl | assumption | omega | (simp only [*, Bool.not_false, Bool.not_true]; first | done | fail) | (simp [*]; first | done | fail)) rfl | exact pk_f (by first | rfl | assumption | omega | (simp only [*, Bool.not_false, Bool.not_true]; first | done | fail) | (simp [*]; first | done | fail)) rfl | exact rw_c Int rfl | exact rw_raw | exact pu_cv (fun w => rfl) (by omega) | exact pu_of (fun w => rfl) rfl | exact be_of (fun w => rfl) | exact nc_of (fun _ _ _ _ => rfl) rfl | exact bu_of (fun w => rfl) rfl | fail) ?_) | ((first | refine q_callE wsT wsZ (by rfl) ?_ | refine q_callVE wsT (by rfl) (by rfl) ?_); refine ⟨_, _, _, (by first | assumption | exact k_l1In _ _ _ | exact k_linesS _ | exact k_has _ _ (by omega) | exact k_wvS2 _ _ | exact k_bitS _ _ (by omega) | exact k_turnS _ _ (by omega)), _, by rfl, ?_, ?_⟩)); focus (first | exact trivial | fail | exact rfl | (first | omega | (simp only [List.length_append, List.length_replicate, List.length_cons, List.length_nil, List.length_set, List.length_take, List.length_drop, true_and]; omega)) | exact cvB (fun w => rfl) | ((repeat' (first | exact rfl | exact cV_len _ | exact cV_ln rfl (by omega) | exact Cel.pos | omega | exact trivial | refine And.intro ?_ ?_)); done) | (simp [*]; done) | (simp; omega))) | fail)) | refine r_nt (by rfl) (by rfl) (by first | rfl | assumption | omega | (simp only [*, Bool.not_false, Bool.not_true]; first | done | fail) | (simp [*]; first | done | fail)) (by rfl) ?_ | refine r_nf (by rfl) (by rfl) (by first | rfl | assumption | omega | (simp only [*, Bool.not_false, Bool.not_true]; first | done | fail) | (simp [*]; first | done | fail)) (by rfl) ?_ | refine r_gu (by rfl) (by rfl) (by rfl) ?_ | refine r_nil ?_); (repeat (first | ((first | refine r_none ?_ | refine r_gt (by rfl) (by rfl) (by first | rfl | assumption | omega | (simp only [*, Bool.not_false, Bool.not_true]; first | done | fail) | (simp [*]; first | done | fail)) (by rfl) ?_ | refine r_gf (by rfl) (by rfl) (by first | rfl | assumption | omega | (simp only [*, Bool.not_false, Bool.not_true]; first | done | fail) | (simp [*]; first | done | fail)) (by rfl) ?_); (first | fail | ((first | (refine z_op (by rfl) ?_; first | refine z_ok ?_ ?_ | refine z_ex ?_ (by first | exact ft_raw rfl rfl | ((first | refine ft_rp rfl rfl rfl ?_ | refine ft_row rfl rfl rfl ?_ | refine ft_rpF rfl rfl rfl ?_ | refine ft_rowF rfl rfl rfl ?_ | refine up_row rfl rfl ?_ | refine up_rowF rfl rfl rfl ?_ | refine ct_0 rfl ?_ | refine ct_r rfl rfl ?_ | refine ct_c rfl rfl rfl ?_ | refine cu_all rfl ?_ | refine cu_to rfl ?_ | refine cu_from rfl ?_ | refine cu_p rfl ?_ | fail); (first | omega | (simp only [List.length_append, List.length_replicate, List.length_cons, List.length_nil, List.length_set, List.length_take, List.length_drop, true_and]; omega))) | exact up_raw rfl | exact pk_t (by first | rfl | assumption | omega | (simp only [*, Bool.not_false, Bool.not_true]; first | done | fail) | (simp [*]; first | done | fail)) rfl | exact pk_f (by first | rfl | assumption | omega | (simp only [*, Bool.not_false, Bool.not_true]; first | done | fail) | (simp [*]; first | done | fail)) rfl | exact rw_c Int rfl | exact rw_raw | exact pu_cv (fun w => rfl) (by omega) | exact pu_of (fun w => rfl) rfl | exact be_of (fun w => rfl) | exact nc_of (fun _ _ _ _ => rfl) rfl | exact bu_of (fun w => rfl) rfl | fail) ?_) | ((first | refine q_callE wsT wsZ (by rfl) ?_ | refine q_callVE wsT (by rfl) (by rfl) ?_); refine ⟨_, _, _, (by first | assumption | exact k_l1In _ _ _ | exact k_linesS _ | exact k_has _ _ (by omega) | exact k_wvS2 _ _ | exact k_bitS _ _ (by omega) | exact k_turnS _ _ (by omega)), _, by rfl, ?_, ?_⟩)); focus (first | exact trivial | fail | exact rfl | (first | omega | (simp only [List.length_append, List.length_replicate, List.length_cons, List.length_nil, List.length_set, List.length_take, List.length_drop, true_and]; omega)) | exact cvB (fun w => rfl) | ((repeat' (first | exact rfl | exact cV_len _ | exact cV_ln rfl (by omega) | exact Cel.pos | omega | exact trivial | refine And.intro ?_ ?_)); done) | (simp [*]; done) | (simp; omega))) | fail)) | refine r_nt (by rfl) (by rfl) (by first | rfl | assumption | omega | (simp only [*, Bool.not_false, Bool.not_true]; first | done | fail) | (simp [*]; first | done | fail)) (by rfl) ?_ | refine r_nf (by rfl) (by rfl) (by first | rfl | assumption | omega | (simp only [*, Bool.not_false, Bool.not_true]; first | done | fail) | (simp [*]; first | done | fail)) (by rfl) ?_ | refine r_gu (by rfl) (by rfl) (by rfl) ?_ | refine r_nil ?_)); exact hh.out)) : G := h ⟨k⟩
theorem gc_KGH {H G : Prop} (k : H) (h : Hid H → G := by (intro hh; (first | refine aw_seq ?_ | refine aw_ct (by rfl) (by first | rfl | assumption | omega | (simp only [*, Bool.not_false, Bool.not_true]; first | done | fail) | (simp [*]; first | done | fail)) ?_ | refine aw_cf (by rfl) (by first | rfl | assumption | omega | (simp only [*, Bool.not_false, Bool.not_true]; first | done | fail) | (simp [*]; first | done | fail)) ?_ | refine aw_block ?_ | refine aw_region T0ok cfU_ok (by rfl) ?_ | refine aw_skip ?_ | refine aw_exit ?_ | refine ra_step ?_); (repeat (first | refine aw_seq ?_ | refine aw_ct (by rfl) (by first | rfl | assumption | omega | (simp only [*, Bool.not_false, Bool.not_true]; first | done | fail) | (simp [*]; first | done | fail)) ?_ | refine aw_cf (by rfl) (by first | rfl | assumption | omega | (simp only [*, Bool.not_false, Bool.not_true]; first | done | fail) | (simp [*]; first | done | fail)) ?_ | refine aw_block ?_ | refine aw_region T0ok cfU_ok (by rfl) ?_ | refine aw_skip ?_ | refine aw_exit ?_ | refine ra_step ?_)); exact hh.out)) : G := h ⟨k⟩
theorem gd_KGH {H G : Prop} (k : H) (h : Hid H → G := by (intro hh; (refine aw_draw mixed T0ok cfU_ok [] (by rfl) (by kernel_rfl) ?_); exact hh.out)) : G := h ⟨k⟩
theorem k_linesS (g : Gt) : Kon Tryd.prog 43 [gV g] [] (slA 0 0 (lns g)) [iRow (lns g)] [] := by
  obtain ⟨k, a, b, c⟩ := g
  by_cases h0 : k = 0
  · subst h0
    (refine kon_mk T0ok (fn := Tryd.f43) (c := Tryd.f43.body.get rfl) Tryd.func43 rfl (by rfl) (by rfl) (by rfl) ?_; intro hfit hfe)
    (repeat (first | refine gq_KGH ?_ | (refine ga_KGH ?_; intro _hq)))
    ((try refine aw_ret ?_); refine ret_auto2 (by rfl) (by rfl) (by rfl) (by repeat (first | exact trivial | refine ⟨by first | rfl | omega, ?_⟩)) ?_ (by repeat (first | exact trivial | refine ⟨by rfl, by rfl, ?_⟩)) (by repeat (first | exact trivial | refine ⟨by rfl, by rfl, ?_⟩)); try rfl)
  by_cases h1 : k = 1
  · subst h1
    (refine kon_mk T0ok (fn := Tryd.f43) (c := Tryd.f43.body.get rfl) Tryd.func43 rfl (by rfl) (by rfl) (by rfl) ?_; intro hfit hfe)
    (repeat (first | refine gq_KGH ?_ | (refine ga_KGH ?_; intro _hq)))
    ((try refine aw_ret ?_); refine ret_auto2 (by rfl) (by rfl) (by rfl) (by repeat (first | exact trivial | refine ⟨by first | rfl | omega, ?_⟩)) ?_ (by repeat (first | exact trivial | refine ⟨by rfl, by rfl, ?_⟩)) (by repeat (first | exact trivial | refine ⟨by rfl, by rfl, ?_⟩)); try rfl)
  by_cases h2 : k = 2
  · subst h2
    (refine kon_mk T0ok (fn := Tryd.f43) (c := Tryd.f43.body.get rfl) Tryd.func43 rfl (by rfl) (by rfl) (by rfl) ?_; intro hfit hfe)
    (repeat (first | refine gq_KGH ?_ | (refine ga_KGH ?_; intro _hq)))
    ((try refine aw_ret ?_); refine ret_auto2 (by rfl) (by rfl) (by rfl) (by repeat (first | exact trivial | refine ⟨by first | rfl | omega, ?_⟩)) ?_ (by repeat (first | exact trivial | refine ⟨by rfl, by rfl, ?_⟩)) (by repeat (first | exact trivial | refine ⟨by rfl, by rfl, ?_⟩)); try rfl)
  by_cases h3 : k = 3
  · subst h3
    (refine kon_mk T0ok (fn := Tryd.f43) (c := Tryd.f43.body.get rfl) Tryd.func43 rfl (by rfl) (by rfl) (by rfl) ?_; intro hfit hfe)
    (repeat (first | refine gq_KGH ?_ | (refine ga_KGH ?_; intro _hq)))
    ((try refine aw_ret ?_); refine ret_auto2 (by rfl) (by rfl) (by rfl) (by repeat (first | exact trivial | refine ⟨by first | rfl | omega, ?_⟩)) ?_ (by repeat (first | exact trivial | refine ⟨by rfl, by rfl, ?_⟩)) (by repeat (first | exact trivial | refine ⟨by rfl, by rfl, ?_⟩)); try rfl)
  by_cases h4 : k = 4
  · subst h4
    (refine kon_mk T0ok (fn := Tryd.f43) (c := Tryd.f43.body.get rfl) Tryd.func43 rfl (by rfl) (by rfl) (by rfl) ?_; intro hfit hfe)
    (repeat (first | refine gq_KGH ?_ | (refine ga_KGH ?_; intro _hq)))
    ((try refine aw_ret ?_); refine ret_auto2 (by rfl) (by rfl) (by rfl) (by repeat (first | exact trivial | refine ⟨by first | rfl | omega, ?_⟩)) ?_ (by repeat (first | exact trivial | refine ⟨by rfl, by rfl, ?_⟩)) (by repeat (first | exact trivial | refine ⟨by rfl, by rfl, ?_⟩)); try rfl)
  have e : lns ⟨k, a, b, c⟩ = [] := by simp [lns, h0, h1, h2, h3, h4]
  have e0 : (k == 0) = false := by simpa using h0
  have e1 : (k == 1) = false := by simpa using h1
  have e2 : (k == 2) = false := by simpa using h2
  have e3 : (k == 3) = false := by simpa using h3
  have e4 : (k == 4) = false := by simpa using h4
  rw [e]
  clear e h0 h1 h2 h3 h4
  (refine kon_mk T0ok (fn := Tryd.f43) (c := Tryd.f43.body.get rfl) Tryd.func43 rfl (by rfl) (by rfl) (by rfl) ?_; intro hfit hfe)
  (repeat (first | refine gq_KGH ?_ | (refine ga_KGH ?_; intro _hq)))
  ((try refine aw_ret ?_); refine ret_auto2 (by rfl) (by rfl) (by rfl) (by repeat (first | exact trivial | refine ⟨by first | rfl | omega, ?_⟩)) ?_ (by repeat (first | exact trivial | refine ⟨by rfl, by rfl, ?_⟩)) (by repeat (first | exact trivial | refine ⟨by rfl, by rfl, ?_⟩)); try rfl)
def hasB (l : List Int) (x : Int) : Bool := l.any (· == x)
theorem has_drop {l : List Int} {x : Int} {i : Nat} (hi : i < l.length) : hasB (l.drop i) x = ((l.getD i 0 == x) || hasB (l.drop (i + 1)) x) := by
  have e : l.getD i 0 = l[i] := by simp [List.getD_eq_getElem?_getD, hi]
  rw [List.drop_eq_getElem_cons hi, e]; rfl
theorem k_has (l : List Int) (x : Int) (h : l.length ≤ 100000000) : Kon Tryd.prog 55 [roA l, vI x] [] (vB (hasB l x)) [] [] := by
  (refine kon_mk T0ok (fn := Tryd.f55) (c := Tryd.f55.body.get rfl) Tryd.func55 rfl (by rfl) (by rfl) (by rfl) ?_; intro hfit hfe)
  (repeat (first | refine gq_KGH ?_ | (refine ga_KGH ?_; intro _hq)))
  (refine aw_rd [0, 1] [] (fun i : Nat => [(5, vI i)]) (fun _ => []) (fun i => i ≤ l.length ∧ hasB (l.drop i) x = hasB l x) (fun i => l.length - i) 0 (by rfl) (by rfl) ?_ (by rfl) (by repeat (first | exact trivial | refine ⟨by rfl, ?_⟩ | refine ⟨vI_of (by rfl) (by omega), ?_⟩)) (by repeat (first | exact trivial | refine ⟨by rfl, ?_⟩ | refine ⟨vI_of (by rfl) (by omega), ?_⟩)) ?_)
  · exact ⟨Nat.zero_le _, by rw [List.drop_zero]⟩
  rintro i ⟨hi, hz⟩
  rcases Nat.lt_or_ge i l.length with h6 | h6
  · have hd : decide ((i : Int) < (l.length : Int)) = true := by simpa using h6
    have e := has_drop (x := x) h6
    rw [hz] at e
    cases hb : (l.getD i 0 == x) with
    | true =>
      have hb2 : (l.getD (i : Int).toNat (Cel.no : Int) == x) = true := hb
      rw [hb, Bool.true_or] at e
      rw [e]
      clear e hz
      (repeat (first | refine gq_KGH ?_ | (refine ga_KGH ?_; intro _hq)))
      ((try refine aw_ret ?_); refine ret_auto2 (by rfl) (by rfl) (by rfl) (by repeat (first | exact trivial | refine ⟨by first | rfl | omega, ?_⟩)) ?_ (by repeat (first | exact trivial | refine ⟨by rfl, by rfl, ?_⟩)) (by repeat (first | exact trivial | refine ⟨by rfl, by rfl, ?_⟩)); try rfl)
    | false =>
      have hb2 : (l.getD (i : Int).toNat (Cel.no : Int) == x) = false := hb
      rw [hb, Bool.false_or] at e
      have hinv : i + 1 ≤ l.length ∧ hasB (l.drop (i + 1)) x = hasB l x := ⟨h6, e.symm⟩
      clear e hz
      (repeat (first | refine gq_KGH ?_ | (refine ga_KGH ?_; intro _hq)))
      exact ⟨i + 1, hinv, ⟨by rfl, (by repeat (first | exact trivial | refine ⟨by rfl, ?_⟩ | refine ⟨vI_of (by rfl) (by omega), ?_⟩)), (by repeat (first | exact trivial | refine ⟨by rfl, ?_⟩ | refine ⟨vI_of (by rfl) (by omega), ?_⟩))⟩, (by first | omega | (dsimp only; omega))⟩
  · have hd : decide ((i : Int) < (l.length : Int)) = false := by simp; omega
    rw [List.drop_of_length_le h6] at hz
    rw [← hz]
    clear hz
    (repeat (first | refine gq_KGH ?_ | (refine ga_KGH ?_; intro _hq)))
    ((try refine aw_ret ?_); refine ret_auto2 (by rfl) (by rfl) (by rfl) (by repeat (first | exact trivial | refine ⟨by first | rfl | omega, ?_⟩)) ?_ (by repeat (first | exact trivial | refine ⟨by rfl, by rfl, ?_⟩)) (by repeat (first | exact trivial | refine ⟨by rfl, by rfl, ?_⟩)); try rfl)


























































def gsL (n : Int) (L : List Int) : Nat → Nat → Bool
  | 0, _ => true
  | f + 1, i => btw (L.getD i 0) 0 (n - 1) && (!(hasB (L.take i) (L.getD i 0)) && gsL n L f (i + 1))
def gvS (n : Int) (g : Gt) : Bool := gsL n (lns g) (lns g).length 0 && (btw n 1 8 && (decide ((lns g).length > 0) && ((decide ((lns g).length > 1) || g.b == 0) && (decide ((lns g).length > 2) || g.c == 0))))
theorem beqC (a b : Int) : (a == b) = (b == a) := by rw [Bool.eq_iff_iff, beq_iff_eq, beq_iff_eq]; exact eq_comm
theorem gvS_eq (n : Int) (g : Gt) : gvS n g = gok n g := by
  cases hk : btw g.k 0 4 with
  | false =>
    have h := btw_f hk
    have e : lns g = [] := by simp [lns, show ¬ g.k = 0 by omega, show ¬ g.k = 1 by omega, show ¬ g.k = 2 by omega, show ¬ g.k = 3 by omega, show ¬ g.k = 4 by omega]
    unfold gvS
    rw [e, gok_k hk]
    simp
  | true =>
    have hk' := btw_t hk
    cases hn : btw n 1 8 with
    | false => rw [gok_n hn]; unfold gvS; rw [hn]; simp
    | true =>
      rw [gok_nt hk' hn]
      have h' : g.k = 0 ∨ g.k = 1 ∨ g.k = 2 ∨ g.k = 3 ∨ g.k = 4 := by omega
      unfold gvS ntL ntR lns
      rw [hn]
      rcases h' with h' | h' | h' | h' | h' <;> simp [h', gvL1, gvL2, gvL3, z0, gsL, btw8, hasB, Bool.and_assoc, bne, beqC g.a g.b, beqC g.a g.c, beqC g.b g.c]
set_option maxHeartbeats 1000000 in
theorem k_gvSa (n : Int) (g : Gt) (hr : -9223372036854775807 ≤ n ∧ n ≤ 9223372036854775807) : Kon Tryd.prog 41 [vI n, gV g] [] (vB (gok n g)) [] [] := by
  rw [← gvS_eq]
  have hK := k_linesS g
  have hL : (lns g).length ≤ 3 := by unfold lns; split <;> (try split) <;> (try split) <;> simp
  unfold gvS
  obtain ⟨L, eL⟩ : ∃ L, L = lns g := ⟨_, rfl⟩
  rw [← eL] at hK hL ⊢
  obtain ⟨k, a, b, c⟩ := g
  clear eL
  dsimp only
  (refine kon_mk T0ok (fn := Tryd.f41) (c := Tryd.f41.body.get rfl) Tryd.func41 rfl (by rfl) (by rfl) (by rfl) ?_; intro hfit hfe)
  (repeat refine gc_KGH ?_)
  (repeat (first | refine gs_KGH ?_ | (refine ga_KGH ?_; intro _hq)))
  (repeat refine gc_KGH ?_)
  (repeat (first | refine gs_KGH ?_ | (refine ga_KGH ?_; intro _hq)))
  (refine aw_freeze 128 (by rfl) (by rfl) ?_; refine aw_slot 5 1 (by rfl) (by rfl) (by first | exact trivial | omega | exact cvB (fun w => rfl) | ((repeat (any_goals (first | exact rfl | exact cV_len _ | exact cV_ln rfl (by omega) | exact Cel.pos | omega | exact trivial | refine And.intro ?_ ?_))); first | done | fail) | (simp [*]; first | done | fail)) ?_)
  (repeat (first | refine gq_KGH ?_ | (refine ga_KGH ?_; intro _hq)))
  (refine aw_rd [0, 3, 5] [48] (fun i : Nat => [(6, vI i)]) (fun _ => []) (fun i => i ≤ L.length ∧ gsL n L (L.length - i) i = gsL n L L.length 0) (fun i => L.length - i) 0 (by rfl) (by rfl) ?_ (by rfl) (by repeat (first | exact trivial | refine ⟨by rfl, ?_⟩ | refine ⟨vI_of (by rfl) (by omega), ?_⟩)) (by repeat (first | exact trivial | refine ⟨by rfl, ?_⟩ | refine ⟨vI_of (by rfl) (by omega), ?_⟩)) ?_)
  · exact ⟨Nat.zero_le _, rfl⟩
  rintro i ⟨hi, hz⟩
  rcases Nat.lt_or_ge i L.length with h6 | h6
  · have hd : decide ((i : Int) < (L.length : Int)) = true := by simpa using h6
    rw [show L.length - i = (L.length - (i + 1)) + 1 by omega, gsL] at hz
    replace hz : (btw (L.getD (i : Int).toNat (Cel.no : Int)) 0 (n - 1) && (!(hasB (L.take (i : Int).toNat) (L.getD (i : Int).toNat (Cel.no : Int))) && gsL n L (L.length - (i + 1)) (i + 1))) = gsL n L L.length 0 := hz
    cases hb : btw (L.getD (i : Int).toNat (Cel.no : Int)) 0 (n - 1) with
    | false =>
      rw [hb, Bool.false_and] at hz
      rw [← hz, Bool.false_and]
      clear hz
      (repeat (first | refine gq_KGH ?_ | (refine ga_KGH ?_; intro _hq) | refine gd_KGH ?_))
      ((try refine aw_ret ?_); refine ret_auto2 (by rfl) (by rfl) (by rfl) (by repeat (first | exact trivial | refine ⟨by first | rfl | omega, ?_⟩)) ?_ (by repeat (first | exact trivial | refine ⟨by rfl, by rfl, ?_⟩)) (by repeat (first | exact trivial | refine ⟨by rfl, by rfl, ?_⟩)); try rfl)
    | true =>
      rw [hb, Bool.true_and] at hz
      have hK2 : Kon Tryd.prog 55 [roA (L.take (i : Int).toNat), vI (L.getD (i : Int).toNat (Cel.no : Int))] [] (vB (hasB (L.take (i : Int).toNat) (L.getD (i : Int).toNat (Cel.no : Int)))) [] [] := k_has _ _ (by simp; omega)
      cases hv : hasB (L.take (i : Int).toNat) (L.getD (i : Int).toNat (Cel.no : Int)) with
      | true =>
        rw [hv, Bool.not_true, Bool.false_and] at hz
        rw [← hz, Bool.false_and]
        clear hz
        (repeat (first | refine gq_KGH ?_ | (refine ga_KGH ?_; intro _hq) | refine gd_KGH ?_))
        ((try refine aw_ret ?_); refine ret_auto2 (by rfl) (by rfl) (by rfl) (by repeat (first | exact trivial | refine ⟨by first | rfl | omega, ?_⟩)) ?_ (by repeat (first | exact trivial | refine ⟨by rfl, by rfl, ?_⟩)) (by repeat (first | exact trivial | refine ⟨by rfl, by rfl, ?_⟩)); try rfl)
      | false =>
        rw [hv, Bool.not_false, Bool.true_and] at hz
        have hinv : i + 1 ≤ L.length ∧ gsL n L (L.length - (i + 1)) (i + 1) = gsL n L L.length 0 := ⟨h6, hz⟩
        clear hz
        (repeat (first | refine gq_KGH ?_ | (refine ga_KGH ?_; intro _hq) | refine gd_KGH ?_))
        exact ⟨i + 1, hinv, ⟨by rfl, (by repeat (first | exact trivial | refine ⟨by rfl, ?_⟩ | refine ⟨vI_of (by rfl) (by omega), ?_⟩)), (by repeat (first | exact trivial | refine ⟨by rfl, ?_⟩ | refine ⟨vI_of (by rfl) (by omega), ?_⟩))⟩, (by first | omega | (dsimp only; omega))⟩
  · have hd : decide ((i : Int) < (L.length : Int)) = false := by simp; omega
    have e0 : L.length - i = 0 := by omega
    rw [e0, gsL] at hz
    rw [← hz, Bool.true_and]
    clear hz e0
    cases hn : btw n 1 8 with
    | false => 
      (repeat (first | refine gq_KGH ?_ | (refine ga_KGH ?_; intro _hq) | refine gd_KGH ?_))
      ((try refine aw_ret ?_); refine ret_auto2 (by rfl) (by rfl) (by rfl) (by repeat (first | exact trivial | refine ⟨by first | rfl | omega, ?_⟩)) ?_ (by repeat (first | exact trivial | refine ⟨by rfl, by rfl, ?_⟩)) (by repeat (first | exact trivial | refine ⟨by rfl, by rfl, ?_⟩)); try rfl)
    | true =>
      rw [Bool.true_and]
      cases h1 : decide ((L.length : Int) > 0) with
      | false =>
        have e : decide (L.length > 0) = false := by simpa using h1
        rw [e, Bool.false_and]
        (repeat (first | refine gq_KGH ?_ | (refine ga_KGH ?_; intro _hq) | refine gd_KGH ?_))
        ((try refine aw_ret ?_); refine ret_auto2 (by rfl) (by rfl) (by rfl) (by repeat (first | exact trivial | refine ⟨by first | rfl | omega, ?_⟩)) ?_ (by repeat (first | exact trivial | refine ⟨by rfl, by rfl, ?_⟩)) (by repeat (first | exact trivial | refine ⟨by rfl, by rfl, ?_⟩)); try rfl)
      | true =>
        have e : decide (L.length > 0) = true := by simpa using h1
        rw [e, Bool.true_and]
        clear e
        have e2 : decide ((L.length : Int) > 1) = decide (L.length > 1) := decide_eq_decide.2 (by omega)
        have e3 : decide ((L.length : Int) > 2) = decide (L.length > 2) := decide_eq_decide.2 (by omega)
        rw [← e2, ← e3]
        clear e2 e3
        cases h2 : decide ((L.length : Int) > 1) <;> cases h3 : decide ((L.length : Int) > 2) <;> cases h4 : (b == 0)
        all_goals
          (repeat (first | refine gq_KGH ?_ | (refine ga_KGH ?_; intro _hq) | refine gd_KGH ?_))
          ((try refine aw_ret ?_); refine ret_auto2 (by rfl) (by rfl) (by rfl) (by repeat (first | exact trivial | refine ⟨by first | rfl | omega, ?_⟩)) ?_ (by repeat (first | exact trivial | refine ⟨by rfl, by rfl, ?_⟩)) (by repeat (first | exact trivial | refine ⟨by rfl, by rfl, ?_⟩)); try rfl)
end Go.Proofs.YtgphlcdinejmdaaDoor

/- The reference's GateValid at the least number of lines, and at all. -/
namespace Go.Proofs.YtgphlcdinejmdaaDoor
set_option linter.unusedVariables false
set_option linter.unusedSimpArgs false
set_option maxRecDepth 20000
open Go.RowKit
attribute [local irreducible] runA runX AW
theorem gq_KGM {H G : Prop} (k : H) (h : Hid H → G := by (intro hh; (first | (first | ((first | refine r_none ?_ | refine r_gt (by rfl) (by rfl) (by first | rfl | assumption | omega | (simp only [*, Bool.not_false, Bool.not_true]; first | done | fail) | (simp [*]; first | done | fail)) (by rfl) ?_ | refine r_gf (by rfl) (by rfl) (by first | rfl | assumption | omega | (simp only [*, Bool.not_false, Bool.not_true]; first | done | fail) | (simp [*]; first | done | fail)) (by rfl) ?_); (first | (refine r_pure2 (o := .sub) (r := .int .i64 9223372036854775807) (by rfl) (by rfl) (fun w => by kernel_rfl) (by rfl) (by rfl) ?_) | ((first | (refine z_op (by rfl) ?_; first | refine z_ok ?_ ?_ | refine z_ex ?_ (by first | exact ft_raw rfl rfl | ((first | refine ft_rp rfl rfl rfl ?_ | refine ft_row rfl rfl rfl ?_ | refine ft_rpF rfl rfl rfl ?_ | refine ft_rowF rfl rfl rfl ?_ | refine up_row rfl rfl ?_ | refine up_rowF rfl rfl rfl ?_ | refine ct_0 rfl ?_ | refine ct_r rfl rfl ?_ | refine ct_c rfl rfl rfl ?_ | refine cu_all rfl ?_ | refine cu_to rfl ?_ | refine cu_from rfl ?_ | refine cu_p rfl ?_ | fail); (first | omega | (simp only [List.length_append, List.length_replicate, List.length_cons, List.length_nil, List.length_set, List.length_take, List.length_drop, true_and]; omega))) | exact up_raw rfl | exact pk_t (by first | rfl | assumption | omega | (simp only [*, Bool.not_false, Bool.not_true]; first | done | fail) | (simp [*]; first | done | fail)) rfl | exact pk_f (by first | rfl | assumption | omega | (simp only [*, Bool.not_false, Bool.not_true]; first | done | fail) | (simp [*]; first | done | fail)) rfl | fail | exact rw_raw | exact pu_cv (fun w => rfl) (by omega) | exact pu_of (fun w => rfl) rfl | exact be_of (fun w => rfl) | exact nc_of (fun _ _ _ _ => rfl) rfl | exact bu_of (fun w => rfl) rfl | fail) ?_) | ((first | refine q_callE wsT wsZ (by rfl) ?_ | refine q_callVE wsT (by rfl) (by rfl) ?_); refine ⟨_, _, _, (by first | assumption | exact k_l1In _ _ _ | exact k_linesS _), _, by rfl, ?_, ?_⟩)); focus (first | exact trivial | fail | exact rfl | (first | omega | (simp only [List.length_append, List.length_replicate, List.length_cons, List.length_nil, List.length_set, List.length_take, List.length_drop, true_and]; omega)) | exact cvB (fun w => rfl) | ((repeat' (first | exact rfl | exact cV_len _ | exact cV_ln rfl (by omega) | exact Cel.pos | omega | exact trivial | refine And.intro ?_ ?_)); done) | (simp [*]; done) | (simp; omega))) | fail)) | refine r_nt (by rfl) (by rfl) (by first | rfl | assumption | omega | (simp only [*, Bool.not_false, Bool.not_true]; first | done | fail) | (simp [*]; first | done | fail)) (by rfl) ?_ | refine r_nf (by rfl) (by rfl) (by first | rfl | assumption | omega | (simp only [*, Bool.not_false, Bool.not_true]; first | done | fail) | (simp [*]; first | done | fail)) (by rfl) ?_ | refine r_gu (by rfl) (by rfl) (by rfl) ?_ | refine r_nil ?_) | (first | refine aw_seq ?_ | refine aw_ct (by rfl) (by first | rfl | assumption | omega | (simp only [*, Bool.not_false, Bool.not_true]; first | done | fail) | (simp [*]; first | done | fail)) ?_ | refine aw_cf (by rfl) (by first | rfl | assumption | omega | (simp only [*, Bool.not_false, Bool.not_true]; first | done | fail) | (simp [*]; first | done | fail)) ?_ | refine aw_block ?_ | refine aw_region T0ok cfU_ok (by rfl) ?_ | refine aw_skip ?_ | refine aw_exit ?_ | refine ra_step ?_)); (repeat (first | (first | ((first | refine r_none ?_ | refine r_gt (by rfl) (by rfl) (by first | rfl | assumption | omega | (simp only [*, Bool.not_false, Bool.not_true]; first | done | fail) | (simp [*]; first | done | fail)) (by rfl) ?_ | refine r_gf (by rfl) (by rfl) (by first | rfl | assumption | omega | (simp only [*, Bool.not_false, Bool.not_true]; first | done | fail) | (simp [*]; first | done | fail)) (by rfl) ?_); (first | (refine r_pure2 (o := .sub) (r := .int .i64 9223372036854775807) (by rfl) (by rfl) (fun w => by kernel_rfl) (by rfl) (by rfl) ?_) | ((first | (refine z_op (by rfl) ?_; first | refine z_ok ?_ ?_ | refine z_ex ?_ (by first | exact ft_raw rfl rfl | ((first | refine ft_rp rfl rfl rfl ?_ | refine ft_row rfl rfl rfl ?_ | refine ft_rpF rfl rfl rfl ?_ | refine ft_rowF rfl rfl rfl ?_ | refine up_row rfl rfl ?_ | refine up_rowF rfl rfl rfl ?_ | refine ct_0 rfl ?_ | refine ct_r rfl rfl ?_ | refine ct_c rfl rfl rfl ?_ | refine cu_all rfl ?_ | refine cu_to rfl ?_ | refine cu_from rfl ?_ | refine cu_p rfl ?_ | fail); (first | omega | (simp only [List.length_append, List.length_replicate, List.length_cons, List.length_nil, List.length_set, List.length_take, List.length_drop, true_and]; omega))) | exact up_raw rfl | exact pk_t (by first | rfl | assumption | omega | (simp only [*, Bool.not_false, Bool.not_true]; first | done | fail) | (simp [*]; first | done | fail)) rfl | exact pk_f (by first | rfl | assumption | omega | (simp only [*, Bool.not_false, Bool.not_true]; first | done | fail) | (simp [*]; first | done | fail)) rfl | fail | exact rw_raw | exact pu_cv (fun w => rfl) (by omega) | exact pu_of (fun w => rfl) rfl | exact be_of (fun w => rfl) | exact nc_of (fun _ _ _ _ => rfl) rfl | exact bu_of (fun w => rfl) rfl | fail) ?_) | ((first | refine q_callE wsT wsZ (by rfl) ?_ | refine q_callVE wsT (by rfl) (by rfl) ?_); refine ⟨_, _, _, (by first | assumption | exact k_l1In _ _ _ | exact k_linesS _), _, by rfl, ?_, ?_⟩)); focus (first | exact trivial | fail | exact rfl | (first | omega | (simp only [List.length_append, List.length_replicate, List.length_cons, List.length_nil, List.length_set, List.length_take, List.length_drop, true_and]; omega)) | exact cvB (fun w => rfl) | ((repeat' (first | exact rfl | exact cV_len _ | exact cV_ln rfl (by omega) | exact Cel.pos | omega | exact trivial | refine And.intro ?_ ?_)); done) | (simp [*]; done) | (simp; omega))) | fail)) | refine r_nt (by rfl) (by rfl) (by first | rfl | assumption | omega | (simp only [*, Bool.not_false, Bool.not_true]; first | done | fail) | (simp [*]; first | done | fail)) (by rfl) ?_ | refine r_nf (by rfl) (by rfl) (by first | rfl | assumption | omega | (simp only [*, Bool.not_false, Bool.not_true]; first | done | fail) | (simp [*]; first | done | fail)) (by rfl) ?_ | refine r_gu (by rfl) (by rfl) (by rfl) ?_ | refine r_nil ?_) | (first | refine aw_seq ?_ | refine aw_ct (by rfl) (by first | rfl | assumption | omega | (simp only [*, Bool.not_false, Bool.not_true]; first | done | fail) | (simp [*]; first | done | fail)) ?_ | refine aw_cf (by rfl) (by first | rfl | assumption | omega | (simp only [*, Bool.not_false, Bool.not_true]; first | done | fail) | (simp [*]; first | done | fail)) ?_ | refine aw_block ?_ | refine aw_region T0ok cfU_ok (by rfl) ?_ | refine aw_skip ?_ | refine aw_exit ?_ | refine ra_step ?_))); exact hh.out)) : G := h ⟨k⟩
theorem ga_KGM {H G : Prop} (k : H) (h : Hid H → G := by (intro hh; (first | refine r_none ?_ | refine r_gt (by rfl) (by rfl) (by first | rfl | assumption | omega | (simp only [*, Bool.not_false, Bool.not_true]; first | done | fail) | (simp [*]; first | done | fail)) (by rfl) ?_ | refine r_gf (by rfl) (by rfl) (by first | rfl | assumption | omega | (simp only [*, Bool.not_false, Bool.not_true]; first | done | fail) | (simp [*]; first | done | fail)) (by rfl) ?_); refine z_op (by rfl) ?_; refine z_alV ?_ hh.out; focus (first | exact trivial | fail | exact rfl | (first | omega | (simp only [List.length_append, List.length_replicate, List.length_cons, List.length_nil, List.length_set, List.length_take, List.length_drop, true_and]; omega)) | exact cvB (fun w => rfl) | ((repeat' (first | exact rfl | exact cV_len _ | exact cV_ln rfl (by omega) | exact Cel.pos | omega | exact trivial | refine And.intro ?_ ?_)); done) | (simp [*]; done) | (simp; omega)))) : G := h ⟨k⟩
theorem gs_KGM {H G : Prop} (k : H) (h : Hid H → G := by (intro hh; (first | ((first | refine r_none ?_ | refine r_gt (by rfl) (by rfl) (by first | rfl | assumption | omega | (simp only [*, Bool.not_false, Bool.not_true]; first | done | fail) | (simp [*]; first | done | fail)) (by rfl) ?_ | refine r_gf (by rfl) (by rfl) (by first | rfl | assumption | omega | (simp only [*, Bool.not_false, Bool.not_true]; first | done | fail) | (simp [*]; first | done | fail)) (by rfl) ?_); (first | (refine r_pure2 (o := .sub) (r := .int .i64 9223372036854775807) (by rfl) (by rfl) (fun w => by kernel_rfl) (by rfl) (by rfl) ?_) | ((first | (refine z_op (by rfl) ?_; first | refine z_ok ?_ ?_ | refine z_ex ?_ (by first | exact ft_raw rfl rfl | ((first | refine ft_rp rfl rfl rfl ?_ | refine ft_row rfl rfl rfl ?_ | refine ft_rpF rfl rfl rfl ?_ | refine ft_rowF rfl rfl rfl ?_ | refine up_row rfl rfl ?_ | refine up_rowF rfl rfl rfl ?_ | refine ct_0 rfl ?_ | refine ct_r rfl rfl ?_ | refine ct_c rfl rfl rfl ?_ | refine cu_all rfl ?_ | refine cu_to rfl ?_ | refine cu_from rfl ?_ | refine cu_p rfl ?_ | fail); (first | omega | (simp only [List.length_append, List.length_replicate, List.length_cons, List.length_nil, List.length_set, List.length_take, List.length_drop, true_and]; omega))) | exact up_raw rfl | exact pk_t (by first | rfl | assumption | omega | (simp only [*, Bool.not_false, Bool.not_true]; first | done | fail) | (simp [*]; first | done | fail)) rfl | exact pk_f (by first | rfl | assumption | omega | (simp only [*, Bool.not_false, Bool.not_true]; first | done | fail) | (simp [*]; first | done | fail)) rfl | fail | exact rw_raw | exact pu_cv (fun w => rfl) (by omega) | exact pu_of (fun w => rfl) rfl | exact be_of (fun w => rfl) | exact nc_of (fun _ _ _ _ => rfl) rfl | exact bu_of (fun w => rfl) rfl | fail) ?_) | ((first | refine q_callE wsT wsZ (by rfl) ?_ | refine q_callVE wsT (by rfl) (by rfl) ?_); refine ⟨_, _, _, (by first | assumption | exact k_l1In _ _ _ | exact k_linesS _), _, by rfl, ?_, ?_⟩)); focus (first | exact trivial | fail | exact rfl | (first | omega | (simp only [List.length_append, List.length_replicate, List.length_cons, List.length_nil, List.length_set, List.length_take, List.length_drop, true_and]; omega)) | exact cvB (fun w => rfl) | ((repeat' (first | exact rfl | exact cV_len _ | exact cV_ln rfl (by omega) | exact Cel.pos | omega | exact trivial | refine And.intro ?_ ?_)); done) | (simp [*]; done) | (simp; omega))) | fail)) | refine r_nt (by rfl) (by rfl) (by first | rfl | assumption | omega | (simp only [*, Bool.not_false, Bool.not_true]; first | done | fail) | (simp [*]; first | done | fail)) (by rfl) ?_ | refine r_nf (by rfl) (by rfl) (by first | rfl | assumption | omega | (simp only [*, Bool.not_false, Bool.not_true]; first | done | fail) | (simp [*]; first | done | fail)) (by rfl) ?_ | refine r_gu (by rfl) (by rfl) (by rfl) ?_ | refine r_nil ?_); (repeat (first | ((first | refine r_none ?_ | refine r_gt (by rfl) (by rfl) (by first | rfl | assumption | omega | (simp only [*, Bool.not_false, Bool.not_true]; first | done | fail) | (simp [*]; first | done | fail)) (by rfl) ?_ | refine r_gf (by rfl) (by rfl) (by first | rfl | assumption | omega | (simp only [*, Bool.not_false, Bool.not_true]; first | done | fail) | (simp [*]; first | done | fail)) (by rfl) ?_); (first | (refine r_pure2 (o := .sub) (r := .int .i64 9223372036854775807) (by rfl) (by rfl) (fun w => by kernel_rfl) (by rfl) (by rfl) ?_) | ((first | (refine z_op (by rfl) ?_; first | refine z_ok ?_ ?_ | refine z_ex ?_ (by first | exact ft_raw rfl rfl | ((first | refine ft_rp rfl rfl rfl ?_ | refine ft_row rfl rfl rfl ?_ | refine ft_rpF rfl rfl rfl ?_ | refine ft_rowF rfl rfl rfl ?_ | refine up_row rfl rfl ?_ | refine up_rowF rfl rfl rfl ?_ | refine ct_0 rfl ?_ | refine ct_r rfl rfl ?_ | refine ct_c rfl rfl rfl ?_ | refine cu_all rfl ?_ | refine cu_to rfl ?_ | refine cu_from rfl ?_ | refine cu_p rfl ?_ | fail); (first | omega | (simp only [List.length_append, List.length_replicate, List.length_cons, List.length_nil, List.length_set, List.length_take, List.length_drop, true_and]; omega))) | exact up_raw rfl | exact pk_t (by first | rfl | assumption | omega | (simp only [*, Bool.not_false, Bool.not_true]; first | done | fail) | (simp [*]; first | done | fail)) rfl | exact pk_f (by first | rfl | assumption | omega | (simp only [*, Bool.not_false, Bool.not_true]; first | done | fail) | (simp [*]; first | done | fail)) rfl | fail | exact rw_raw | exact pu_cv (fun w => rfl) (by omega) | exact pu_of (fun w => rfl) rfl | exact be_of (fun w => rfl) | exact nc_of (fun _ _ _ _ => rfl) rfl | exact bu_of (fun w => rfl) rfl | fail) ?_) | ((first | refine q_callE wsT wsZ (by rfl) ?_ | refine q_callVE wsT (by rfl) (by rfl) ?_); refine ⟨_, _, _, (by first | assumption | exact k_l1In _ _ _ | exact k_linesS _), _, by rfl, ?_, ?_⟩)); focus (first | exact trivial | fail | exact rfl | (first | omega | (simp only [List.length_append, List.length_replicate, List.length_cons, List.length_nil, List.length_set, List.length_take, List.length_drop, true_and]; omega)) | exact cvB (fun w => rfl) | ((repeat' (first | exact rfl | exact cV_len _ | exact cV_ln rfl (by omega) | exact Cel.pos | omega | exact trivial | refine And.intro ?_ ?_)); done) | (simp [*]; done) | (simp; omega))) | fail)) | refine r_nt (by rfl) (by rfl) (by first | rfl | assumption | omega | (simp only [*, Bool.not_false, Bool.not_true]; first | done | fail) | (simp [*]; first | done | fail)) (by rfl) ?_ | refine r_nf (by rfl) (by rfl) (by first | rfl | assumption | omega | (simp only [*, Bool.not_false, Bool.not_true]; first | done | fail) | (simp [*]; first | done | fail)) (by rfl) ?_ | refine r_gu (by rfl) (by rfl) (by rfl) ?_ | refine r_nil ?_)); exact hh.out)) : G := h ⟨k⟩
theorem gc_KGM {H G : Prop} (k : H) (h : Hid H → G := by (intro hh; (first | refine aw_seq ?_ | refine aw_ct (by rfl) (by first | rfl | assumption | omega | (simp only [*, Bool.not_false, Bool.not_true]; first | done | fail) | (simp [*]; first | done | fail)) ?_ | refine aw_cf (by rfl) (by first | rfl | assumption | omega | (simp only [*, Bool.not_false, Bool.not_true]; first | done | fail) | (simp [*]; first | done | fail)) ?_ | refine aw_block ?_ | refine aw_region T0ok cfU_ok (by rfl) ?_ | refine aw_skip ?_ | refine aw_exit ?_ | refine ra_step ?_); (repeat (first | refine aw_seq ?_ | refine aw_ct (by rfl) (by first | rfl | assumption | omega | (simp only [*, Bool.not_false, Bool.not_true]; first | done | fail) | (simp [*]; first | done | fail)) ?_ | refine aw_cf (by rfl) (by first | rfl | assumption | omega | (simp only [*, Bool.not_false, Bool.not_true]; first | done | fail) | (simp [*]; first | done | fail)) ?_ | refine aw_block ?_ | refine aw_region T0ok cfU_ok (by rfl) ?_ | refine aw_skip ?_ | refine aw_exit ?_ | refine ra_step ?_)); exact hh.out)) : G := h ⟨k⟩
theorem gd_KGM {H G : Prop} (k : H) (h : Hid H → G := by (intro hh; (refine aw_draw mixed T0ok cfU_ok [] (by rfl) (by kernel_rfl) ?_); exact hh.out)) : G := h ⟨k⟩
set_option maxHeartbeats 1000000 in
theorem k_gvSm (g : Gt) : Kon Tryd.prog 41 [vI (-9223372036854775808), gV g] [] (vB false) [] [] := by
  have hK := k_linesS g
  have hL : (lns g).length ≤ 3 := by unfold lns; split <;> (try split) <;> (try split) <;> simp
  obtain ⟨L, eL⟩ : ∃ L, L = lns g := ⟨_, rfl⟩
  rw [← eL] at hK hL
  obtain ⟨k, a, b, c⟩ := g
  clear eL
  (refine kon_mk T0ok (fn := Tryd.f41) (c := Tryd.f41.body.get rfl) Tryd.func41 rfl (by rfl) (by rfl) (by rfl) ?_; intro hfit hfe)
  (repeat refine gc_KGM ?_)
  (repeat (first | refine gs_KGM ?_ | (refine ga_KGM ?_; intro _hq)))
  (repeat refine gc_KGM ?_)
  (repeat (first | refine gs_KGM ?_ | (refine ga_KGM ?_; intro _hq)))
  (refine aw_freeze 128 (by rfl) (by rfl) ?_; refine aw_slot 5 1 (by rfl) (by rfl) (by first | exact trivial | omega | exact cvB (fun w => rfl) | ((repeat (any_goals (first | exact rfl | exact cV_len _ | exact cV_ln rfl (by omega) | exact Cel.pos | omega | exact trivial | refine And.intro ?_ ?_))); first | done | fail) | (simp [*]; first | done | fail)) ?_)
  (repeat (first | refine gq_KGM ?_ | (refine ga_KGM ?_; intro _hq)))
  (refine aw_rd [0, 3, 5] [48] (fun i : Nat => [(6, vI i)]) (fun _ => []) (fun i => i ≤ L.length) (fun i => L.length - i) 0 (by rfl) (by rfl) ?_ (by rfl) (by repeat (first | exact trivial | refine ⟨by rfl, ?_⟩ | refine ⟨vI_of (by rfl) (by omega), ?_⟩)) (by repeat (first | exact trivial | refine ⟨by rfl, ?_⟩ | refine ⟨vI_of (by rfl) (by omega), ?_⟩)) ?_)
  · exact Nat.zero_le _
  rintro i hi
  rcases Nat.lt_or_ge i L.length with h6 | h6
  · have hd : decide ((i : Int) < (L.length : Int)) = true := by simpa using h6
    cases hb : btw (L.getD (i : Int).toNat (Cel.no : Int)) 0 9223372036854775807 with
    | false =>
      (repeat (first | refine gq_KGM ?_ | (refine ga_KGM ?_; intro _hq) | refine gd_KGM ?_))
      ((try refine aw_ret ?_); refine ret_auto2 (by rfl) (by rfl) (by rfl) (by repeat (first | exact trivial | refine ⟨by first | rfl | omega, ?_⟩)) ?_ (by repeat (first | exact trivial | refine ⟨by rfl, by rfl, ?_⟩)) (by repeat (first | exact trivial | refine ⟨by rfl, by rfl, ?_⟩)); try rfl)
    | true =>
      have hK2 : Kon Tryd.prog 55 [roA (L.take (i : Int).toNat), vI (L.getD (i : Int).toNat (Cel.no : Int))] [] (vB (hasB (L.take (i : Int).toNat) (L.getD (i : Int).toNat (Cel.no : Int)))) [] [] := k_has _ _ (by simp; omega)
      cases hv : hasB (L.take (i : Int).toNat) (L.getD (i : Int).toNat (Cel.no : Int)) with
      | true =>
        (repeat (first | refine gq_KGM ?_ | (refine ga_KGM ?_; intro _hq) | refine gd_KGM ?_))
        ((try refine aw_ret ?_); refine ret_auto2 (by rfl) (by rfl) (by rfl) (by repeat (first | exact trivial | refine ⟨by first | rfl | omega, ?_⟩)) ?_ (by repeat (first | exact trivial | refine ⟨by rfl, by rfl, ?_⟩)) (by repeat (first | exact trivial | refine ⟨by rfl, by rfl, ?_⟩)); try rfl)
      | false =>
        (repeat (first | refine gq_KGM ?_ | (refine ga_KGM ?_; intro _hq) | refine gd_KGM ?_))
        exact ⟨i + 1, h6, ⟨by rfl, (by repeat (first | exact trivial | refine ⟨by rfl, ?_⟩ | refine ⟨vI_of (by rfl) (by omega), ?_⟩)), (by repeat (first | exact trivial | refine ⟨by rfl, ?_⟩ | refine ⟨vI_of (by rfl) (by omega), ?_⟩))⟩, (by first | omega | (dsimp only; omega))⟩
  · have hd : decide ((i : Int) < (L.length : Int)) = false := by simp; omega
    have hn : btw (-9223372036854775808) 1 8 = false := rfl
    (repeat (first | refine gq_KGM ?_ | (refine ga_KGM ?_; intro _hq) | refine gd_KGM ?_))
    ((try refine aw_ret ?_); refine ret_auto2 (by rfl) (by rfl) (by rfl) (by repeat (first | exact trivial | refine ⟨by first | rfl | omega, ?_⟩)) ?_ (by repeat (first | exact trivial | refine ⟨by rfl, by rfl, ?_⟩)) (by repeat (first | exact trivial | refine ⟨by rfl, by rfl, ?_⟩)); try rfl)
theorem k_gvS (n : Int) (g : Gt) (hr : -9223372036854775808 ≤ n ∧ n ≤ 9223372036854775807) : Kon Tryd.prog 41 [vI n, gV g] [] (vB (gok n g)) [] [] := by
  by_cases h : n = -9223372036854775808
  · subst h
    rw [gok_n rfl]
    exact k_gvSm g
  · exact k_gvSa n g (by omega)
end Go.Proofs.YtgphlcdinejmdaaDoor

/- The text of a gate, both sides. -/
namespace Go.Proofs.YtgphlcdinejmdaaDoor
set_option linter.unusedVariables false
set_option linter.unusedSimpArgs false
set_option maxRecDepth 20000
open Go.RowKit
open Go.Lib (decDigits)
attribute [local irreducible] runA runX AW
theorem gq_DT {H G : Prop} (k : H) (h : Hid H → G := by (intro hh; (first | (first | ((first | refine r_none ?_ | refine r_gt (by rfl) (by rfl) (by first | rfl | assumption | omega | (simp only [*, Bool.not_false, Bool.not_true]; first | done | fail) | (simp [*]; first | done | fail)) (by rfl) ?_ | refine r_gf (by rfl) (by rfl) (by first | rfl | assumption | omega | (simp only [*, Bool.not_false, Bool.not_true]; first | done | fail) | (simp [*]; first | done | fail)) (by rfl) ?_); (first | (first | refine r_slen (by rfl) Tryd.underlying9 (by rfl) ?_ | refine r_seq (by rfl) (by rfl) (by rfl) ?_ | refine r_sne (by rfl) (by rfl) (by rfl) ?_ | refine r_sadd (by rfl) (by rfl) (by first | omega | (simp only [List.length_append, List.length_cons, List.length_nil]; omega)) (by rfl) ?_) | ((first | (refine z_op (by rfl) ?_; first | refine z_ok ?_ ?_ | refine z_ex ?_ (by first | exact ft_raw rfl rfl | ((first | refine ft_rp rfl rfl rfl ?_ | refine ft_row rfl rfl rfl ?_ | refine ft_rpF rfl rfl rfl ?_ | refine ft_rowF rfl rfl rfl ?_ | refine up_row rfl rfl ?_ | refine up_rowF rfl rfl rfl ?_ | refine ct_0 rfl ?_ | refine ct_r rfl rfl ?_ | refine ct_c rfl rfl rfl ?_ | refine cu_all rfl ?_ | refine cu_to rfl ?_ | refine cu_from rfl ?_ | refine cu_p rfl ?_ | fail); (first | omega | (simp only [List.length_append, List.length_replicate, List.length_cons, List.length_nil, List.length_set, List.length_take, List.length_drop, true_and]; omega))) | exact up_raw rfl | exact pk_t (by first | rfl | assumption | omega | (simp only [*, Bool.not_false, Bool.not_true]; first | done | fail) | (simp [*]; first | done | fail)) rfl | exact pk_f (by first | rfl | assumption | omega | (simp only [*, Bool.not_false, Bool.not_true]; first | done | fail) | (simp [*]; first | done | fail)) rfl | (first | exact rw_c (List UInt8) rfl | exact rw_c Int rfl) | exact rw_raw | exact pu_cv (fun w => rfl) (by omega) | exact pu_of (fun w => rfl) rfl | exact be_of (fun w => rfl) | exact nc_of (fun _ _ _ _ => rfl) rfl | exact bu_of (fun w => rfl) rfl | fail) ?_) | ((first | refine q_callE wsT wsZ (by rfl) ?_ | refine q_callVE wsT (by rfl) (by rfl) ?_); refine ⟨_, _, _, (by first | assumption | exact k_itoa _ (by omega) | exact k_num _ (by omega) | exact k_l1In _ _ _), _, by rfl, ?_, ?_⟩)); focus (first | exact trivial | fail | exact rfl | (first | omega | (simp only [List.length_append, List.length_replicate, List.length_cons, List.length_nil, List.length_set, List.length_take, List.length_drop, true_and]; omega)) | exact cvB (fun w => rfl) | ((repeat' (first | exact rfl | exact cV_len _ | exact cV_ln rfl (by omega) | exact Cel.pos | omega | exact trivial | refine And.intro ?_ ?_)); done) | (simp [*]; done) | (simp; omega))) | fail)) | refine r_nt (by rfl) (by rfl) (by first | rfl | assumption | omega | (simp only [*, Bool.not_false, Bool.not_true]; first | done | fail) | (simp [*]; first | done | fail)) (by rfl) ?_ | refine r_nf (by rfl) (by rfl) (by first | rfl | assumption | omega | (simp only [*, Bool.not_false, Bool.not_true]; first | done | fail) | (simp [*]; first | done | fail)) (by rfl) ?_ | refine r_gu (by rfl) (by rfl) (by rfl) ?_ | refine r_nil ?_) | (first | refine aw_seq ?_ | refine aw_ct (by rfl) (by first | rfl | assumption | omega | (simp only [*, Bool.not_false, Bool.not_true]; first | done | fail) | (simp [*]; first | done | fail)) ?_ | refine aw_cf (by rfl) (by first | rfl | assumption | omega | (simp only [*, Bool.not_false, Bool.not_true]; first | done | fail) | (simp [*]; first | done | fail)) ?_ | refine aw_block ?_ | refine aw_region T0ok cfU_ok (by rfl) ?_ | refine aw_skip ?_ | refine aw_exit ?_ | refine ra_step ?_)); (repeat (first | (first | ((first | refine r_none ?_ | refine r_gt (by rfl) (by rfl) (by first | rfl | assumption | omega | (simp only [*, Bool.not_false, Bool.not_true]; first | done | fail) | (simp [*]; first | done | fail)) (by rfl) ?_ | refine r_gf (by rfl) (by rfl) (by first | rfl | assumption | omega | (simp only [*, Bool.not_false, Bool.not_true]; first | done | fail) | (simp [*]; first | done | fail)) (by rfl) ?_); (first | (first | refine r_slen (by rfl) Tryd.underlying9 (by rfl) ?_ | refine r_seq (by rfl) (by rfl) (by rfl) ?_ | refine r_sne (by rfl) (by rfl) (by rfl) ?_ | refine r_sadd (by rfl) (by rfl) (by first | omega | (simp only [List.length_append, List.length_cons, List.length_nil]; omega)) (by rfl) ?_) | ((first | (refine z_op (by rfl) ?_; first | refine z_ok ?_ ?_ | refine z_ex ?_ (by first | exact ft_raw rfl rfl | ((first | refine ft_rp rfl rfl rfl ?_ | refine ft_row rfl rfl rfl ?_ | refine ft_rpF rfl rfl rfl ?_ | refine ft_rowF rfl rfl rfl ?_ | refine up_row rfl rfl ?_ | refine up_rowF rfl rfl rfl ?_ | refine ct_0 rfl ?_ | refine ct_r rfl rfl ?_ | refine ct_c rfl rfl rfl ?_ | refine cu_all rfl ?_ | refine cu_to rfl ?_ | refine cu_from rfl ?_ | refine cu_p rfl ?_ | fail); (first | omega | (simp only [List.length_append, List.length_replicate, List.length_cons, List.length_nil, List.length_set, List.length_take, List.length_drop, true_and]; omega))) | exact up_raw rfl | exact pk_t (by first | rfl | assumption | omega | (simp only [*, Bool.not_false, Bool.not_true]; first | done | fail) | (simp [*]; first | done | fail)) rfl | exact pk_f (by first | rfl | assumption | omega | (simp only [*, Bool.not_false, Bool.not_true]; first | done | fail) | (simp [*]; first | done | fail)) rfl | (first | exact rw_c (List UInt8) rfl | exact rw_c Int rfl) | exact rw_raw | exact pu_cv (fun w => rfl) (by omega) | exact pu_of (fun w => rfl) rfl | exact be_of (fun w => rfl) | exact nc_of (fun _ _ _ _ => rfl) rfl | exact bu_of (fun w => rfl) rfl | fail) ?_) | ((first | refine q_callE wsT wsZ (by rfl) ?_ | refine q_callVE wsT (by rfl) (by rfl) ?_); refine ⟨_, _, _, (by first | assumption | exact k_itoa _ (by omega) | exact k_num _ (by omega) | exact k_l1In _ _ _), _, by rfl, ?_, ?_⟩)); focus (first | exact trivial | fail | exact rfl | (first | omega | (simp only [List.length_append, List.length_replicate, List.length_cons, List.length_nil, List.length_set, List.length_take, List.length_drop, true_and]; omega)) | exact cvB (fun w => rfl) | ((repeat' (first | exact rfl | exact cV_len _ | exact cV_ln rfl (by omega) | exact Cel.pos | omega | exact trivial | refine And.intro ?_ ?_)); done) | (simp [*]; done) | (simp; omega))) | fail)) | refine r_nt (by rfl) (by rfl) (by first | rfl | assumption | omega | (simp only [*, Bool.not_false, Bool.not_true]; first | done | fail) | (simp [*]; first | done | fail)) (by rfl) ?_ | refine r_nf (by rfl) (by rfl) (by first | rfl | assumption | omega | (simp only [*, Bool.not_false, Bool.not_true]; first | done | fail) | (simp [*]; first | done | fail)) (by rfl) ?_ | refine r_gu (by rfl) (by rfl) (by rfl) ?_ | refine r_nil ?_) | (first | refine aw_seq ?_ | refine aw_ct (by rfl) (by first | rfl | assumption | omega | (simp only [*, Bool.not_false, Bool.not_true]; first | done | fail) | (simp [*]; first | done | fail)) ?_ | refine aw_cf (by rfl) (by first | rfl | assumption | omega | (simp only [*, Bool.not_false, Bool.not_true]; first | done | fail) | (simp [*]; first | done | fail)) ?_ | refine aw_block ?_ | refine aw_region T0ok cfU_ok (by rfl) ?_ | refine aw_skip ?_ | refine aw_exit ?_ | refine ra_step ?_))); exact hh.out)) : G := h ⟨k⟩
theorem ga_DT {H G : Prop} (k : H) (h : Hid H → G := by (intro hh; (first | refine r_none ?_ | refine r_gt (by rfl) (by rfl) (by first | rfl | assumption | omega | (simp only [*, Bool.not_false, Bool.not_true]; first | done | fail) | (simp [*]; first | done | fail)) (by rfl) ?_ | refine r_gf (by rfl) (by rfl) (by first | rfl | assumption | omega | (simp only [*, Bool.not_false, Bool.not_true]; first | done | fail) | (simp [*]; first | done | fail)) (by rfl) ?_); refine z_op (by rfl) ?_; refine z_alV ?_ hh.out; focus (first | exact trivial | fail | exact rfl | (first | omega | (simp only [List.length_append, List.length_replicate, List.length_cons, List.length_nil, List.length_set, List.length_take, List.length_drop, true_and]; omega)) | exact cvB (fun w => rfl) | ((repeat' (first | exact rfl | exact cV_len _ | exact cV_ln rfl (by omega) | exact Cel.pos | omega | exact trivial | refine And.intro ?_ ?_)); done) | (simp [*]; done) | (simp; omega)))) : G := h ⟨k⟩
theorem k_kindS (k : Int) (h : 0 ≤ k ∧ k ≤ 4) : Kon Tryd.prog 42 [vI k] [] (vS (gnm k)) [] [] := by
  have h' : k = 0 ∨ k = 1 ∨ k = 2 ∨ k = 3 ∨ k = 4 := by omega
  rcases h' with rfl | rfl | rfl | rfl | rfl
  all_goals (refine kon_mk T0ok (fn := Tryd.f42) (c := Tryd.f42.body.get rfl) Tryd.func42 rfl (by rfl) (by rfl) (by rfl) ?_; intro hfit hfe)
  all_goals ((repeat (first | refine gq_DT ?_ | (refine ga_DT ?_; intro _hq))))
  all_goals (((try refine aw_ret ?_); refine ret_auto2 (by rfl) (by rfl) (by rfl) (by repeat (first | exact trivial | refine ⟨by first | rfl | omega, ?_⟩)) ?_ (by repeat (first | exact trivial | refine ⟨by rfl, by rfl, ?_⟩)) (by repeat (first | exact trivial | refine ⟨by rfl, by rfl, ?_⟩)); try rfl))
theorem dx_len {x : Int} (h : 0 ≤ x ∧ x ≤ 9) : (dx x).length = 1 := by rw [(dx1 h).1]; rfl
theorem k_gtI0 (a : Int) (h : gok 8 ⟨0, a, 0, 0⟩ = true) : Kon Tryd.prog 29 [gV ⟨0, a, 0, 0⟩] [] (vS (gtT ⟨0, a, 0, 0⟩)) [] [] := by
  obtain ⟨_, _, ha, _, _⟩ := gok_bd h
  dsimp only at ha
  have l1 : (decDigits a.toNat).length = 1 := dx_len (x := a) (by omega)
  have l0 := gnm_len 0
  have hV := k_gv 8 ⟨0, a, 0, 0⟩
  rw [h] at hV
  have hN := k_nat1 ⟨0, a, 0, 0⟩ ⟨by dsimp only; omega, by dsimp only; omega⟩
  have hS : Kon Tryd.prog 47 [gV ⟨0, a, 0, 0⟩, vI 1] [] (slA 0 0 [a]) [iRow [a]] [] := k_some _ 1 (by decide)
  have hJ := k_jo [gnm 0, dx a] (gnm 0 ++ [32] ++ dx a) (join_2 _ _ _) (by simp) (by simp only [dx, List.length_append, List.length_cons, List.length_nil]; omega)
  (refine kon_mk T0ok (fn := Tryd.f29) (c := Tryd.f29.body.get rfl) Tryd.func29 rfl (by rfl) (by rfl) (by rfl) ?_; intro hfit hfe)
  (repeat (first | refine gq_DT ?_ | (refine ga_DT ?_; intro _hq)))
  refine aw_unroll 4 ?_
  (repeat (first | refine gq_DT ?_ | (refine ga_DT ?_; intro _hq)))
  ((try refine aw_ret ?_); refine ret_auto2 (by rfl) (by rfl) (by rfl) (by repeat (first | exact trivial | refine ⟨by first | rfl | omega, ?_⟩)) ?_ (by repeat (first | exact trivial | refine ⟨by rfl, by rfl, ?_⟩)) (by repeat (first | exact trivial | refine ⟨by rfl, by rfl, ?_⟩)); try rfl)
theorem k_gtI1 (a b : Int) (h : gok 8 ⟨1, a, b, 0⟩ = true) : Kon Tryd.prog 29 [gV ⟨1, a, b, 0⟩] [] (vS (gtT ⟨1, a, b, 0⟩)) [] [] := by
  obtain ⟨_, _, ha, hb, _⟩ := gok_bd h
  dsimp only at ha hb
  have l1 : (decDigits a.toNat).length = 1 := dx_len (x := a) (by omega)
  have l2 : (decDigits b.toNat).length = 1 := dx_len (x := b) (by omega)
  have l0 := gnm_len 1
  have hV := k_gv 8 ⟨1, a, b, 0⟩
  rw [h] at hV
  have hN := k_nat1 ⟨1, a, b, 0⟩ ⟨by dsimp only; omega, by dsimp only; omega⟩
  have hS : Kon Tryd.prog 47 [gV ⟨1, a, b, 0⟩, vI 3] [] (slA 0 0 [a, b]) [iRow [a, b]] [] := k_some _ 3 (by decide)
  have hJ := k_jo [gnm 1, dx a, dx b] (gnm 1 ++ [32] ++ dx a ++ [32] ++ dx b) (join_3 _ _ _ _) (by simp) (by simp only [dx, List.length_append, List.length_cons, List.length_nil]; omega)
  (refine kon_mk T0ok (fn := Tryd.f29) (c := Tryd.f29.body.get rfl) Tryd.func29 rfl (by rfl) (by rfl) (by rfl) ?_; intro hfit hfe)
  (repeat (first | refine gq_DT ?_ | (refine ga_DT ?_; intro _hq)))
  refine aw_unroll 4 ?_
  (repeat (first | refine gq_DT ?_ | (refine ga_DT ?_; intro _hq)))
  ((try refine aw_ret ?_); refine ret_auto2 (by rfl) (by rfl) (by rfl) (by repeat (first | exact trivial | refine ⟨by first | rfl | omega, ?_⟩)) ?_ (by repeat (first | exact trivial | refine ⟨by rfl, by rfl, ?_⟩)) (by repeat (first | exact trivial | refine ⟨by rfl, by rfl, ?_⟩)); try rfl)
theorem k_gtI3 (a b : Int) (h : gok 8 ⟨3, a, b, 0⟩ = true) : Kon Tryd.prog 29 [gV ⟨3, a, b, 0⟩] [] (vS (gtT ⟨3, a, b, 0⟩)) [] [] := by
  obtain ⟨_, _, ha, hb, _⟩ := gok_bd h
  dsimp only at ha hb
  have l1 : (decDigits a.toNat).length = 1 := dx_len (x := a) (by omega)
  have l2 : (decDigits b.toNat).length = 1 := dx_len (x := b) (by omega)
  have l0 := gnm_len 3
  have hV := k_gv 8 ⟨3, a, b, 0⟩
  rw [h] at hV
  have hN := k_nat1 ⟨3, a, b, 0⟩ ⟨by dsimp only; omega, by dsimp only; omega⟩
  have hS : Kon Tryd.prog 47 [gV ⟨3, a, b, 0⟩, vI 3] [] (slA 0 0 [a, b]) [iRow [a, b]] [] := k_some _ 3 (by decide)
  have hJ := k_jo [gnm 3, dx a, dx b] (gnm 3 ++ [32] ++ dx a ++ [32] ++ dx b) (join_3 _ _ _ _) (by simp) (by simp only [dx, List.length_append, List.length_cons, List.length_nil]; omega)
  (refine kon_mk T0ok (fn := Tryd.f29) (c := Tryd.f29.body.get rfl) Tryd.func29 rfl (by rfl) (by rfl) (by rfl) ?_; intro hfit hfe)
  (repeat (first | refine gq_DT ?_ | (refine ga_DT ?_; intro _hq)))
  refine aw_unroll 4 ?_
  (repeat (first | refine gq_DT ?_ | (refine ga_DT ?_; intro _hq)))
  ((try refine aw_ret ?_); refine ret_auto2 (by rfl) (by rfl) (by rfl) (by repeat (first | exact trivial | refine ⟨by first | rfl | omega, ?_⟩)) ?_ (by repeat (first | exact trivial | refine ⟨by rfl, by rfl, ?_⟩)) (by repeat (first | exact trivial | refine ⟨by rfl, by rfl, ?_⟩)); try rfl)
theorem k_gtI2 (a b c : Int) (h : gok 8 ⟨2, a, b, c⟩ = true) : Kon Tryd.prog 29 [gV ⟨2, a, b, c⟩] [] (vS (gtT ⟨2, a, b, c⟩)) [] [] := by
  obtain ⟨_, _, ha, hb, hc⟩ := gok_bd h
  dsimp only at ha hb hc
  have l1 : (decDigits a.toNat).length = 1 := dx_len (x := a) (by omega)
  have l2 : (decDigits b.toNat).length = 1 := dx_len (x := b) (by omega)
  have l3 : (decDigits c.toNat).length = 1 := dx_len (x := c) (by omega)
  have l0 := gnm_len 2
  have hV := k_gv 8 ⟨2, a, b, c⟩
  rw [h] at hV
  have hN := k_nat1 ⟨2, a, b, c⟩ ⟨by dsimp only; omega, by dsimp only; omega⟩
  have hS : Kon Tryd.prog 47 [gV ⟨2, a, b, c⟩, vI 7] [] (slA 0 0 [a, b, c]) [iRow [a, b, c]] [] := k_some _ 7 (by decide)
  have hJ := k_jo [gnm 2, dx a, dx b, dx c] (gnm 2 ++ [32] ++ dx a ++ [32] ++ dx b ++ [32] ++ dx c) (join_4 _ _ _ _ _) (by simp) (by simp only [dx, List.length_append, List.length_cons, List.length_nil]; omega)
  (refine kon_mk T0ok (fn := Tryd.f29) (c := Tryd.f29.body.get rfl) Tryd.func29 rfl (by rfl) (by rfl) (by rfl) ?_; intro hfit hfe)
  (repeat (first | refine gq_DT ?_ | (refine ga_DT ?_; intro _hq)))
  refine aw_unroll 4 ?_
  (repeat (first | refine gq_DT ?_ | (refine ga_DT ?_; intro _hq)))
  ((try refine aw_ret ?_); refine ret_auto2 (by rfl) (by rfl) (by rfl) (by repeat (first | exact trivial | refine ⟨by first | rfl | omega, ?_⟩)) ?_ (by repeat (first | exact trivial | refine ⟨by rfl, by rfl, ?_⟩)) (by repeat (first | exact trivial | refine ⟨by rfl, by rfl, ?_⟩)); try rfl)
theorem k_gtI4 (a b c : Int) (h : gok 8 ⟨4, a, b, c⟩ = true) : Kon Tryd.prog 29 [gV ⟨4, a, b, c⟩] [] (vS (gtT ⟨4, a, b, c⟩)) [] [] := by
  obtain ⟨_, _, ha, hb, hc⟩ := gok_bd h
  dsimp only at ha hb hc
  have l1 : (decDigits a.toNat).length = 1 := dx_len (x := a) (by omega)
  have l2 : (decDigits b.toNat).length = 1 := dx_len (x := b) (by omega)
  have l3 : (decDigits c.toNat).length = 1 := dx_len (x := c) (by omega)
  have l0 := gnm_len 4
  have hV := k_gv 8 ⟨4, a, b, c⟩
  rw [h] at hV
  have hN := k_nat1 ⟨4, a, b, c⟩ ⟨by dsimp only; omega, by dsimp only; omega⟩
  have hS : Kon Tryd.prog 47 [gV ⟨4, a, b, c⟩, vI 7] [] (slA 0 0 [a, b, c]) [iRow [a, b, c]] [] := k_some _ 7 (by decide)
  have hJ := k_jo [gnm 4, dx a, dx b, dx c] (gnm 4 ++ [32] ++ dx a ++ [32] ++ dx b ++ [32] ++ dx c) (join_4 _ _ _ _ _) (by simp) (by simp only [dx, List.length_append, List.length_cons, List.length_nil]; omega)
  (refine kon_mk T0ok (fn := Tryd.f29) (c := Tryd.f29.body.get rfl) Tryd.func29 rfl (by rfl) (by rfl) (by rfl) ?_; intro hfit hfe)
  (repeat (first | refine gq_DT ?_ | (refine ga_DT ?_; intro _hq)))
  refine aw_unroll 4 ?_
  (repeat (first | refine gq_DT ?_ | (refine ga_DT ?_; intro _hq)))
  ((try refine aw_ret ?_); refine ret_auto2 (by rfl) (by rfl) (by rfl) (by repeat (first | exact trivial | refine ⟨by first | rfl | omega, ?_⟩)) ?_ (by repeat (first | exact trivial | refine ⟨by rfl, by rfl, ?_⟩)) (by repeat (first | exact trivial | refine ⟨by rfl, by rfl, ?_⟩)); try rfl)
theorem k_gtI (g : Gt) : Kon Tryd.prog 29 [gV g] [] (vS (gtx g)) [] [] := by
  unfold gtx
  cases h : gok 8 g with
  | false =>
    have hV := k_gv 8 g
    rw [h] at hV
    rw [if_neg (by decide)]
    (refine kon_mk T0ok (fn := Tryd.f29) (c := Tryd.f29.body.get rfl) Tryd.func29 rfl (by rfl) (by rfl) (by rfl) ?_; intro hfit hfe)
    (repeat (first | refine gq_DT ?_ | (refine ga_DT ?_; intro _hq)))
    ((try refine aw_ret ?_); refine ret_auto2 (by rfl) (by rfl) (by rfl) (by repeat (first | exact trivial | refine ⟨by first | rfl | omega, ?_⟩)) ?_ (by repeat (first | exact trivial | refine ⟨by rfl, by rfl, ?_⟩)) (by repeat (first | exact trivial | refine ⟨by rfl, by rfl, ?_⟩)); try rfl)
  | true =>
    rw [if_pos rfl]
    obtain ⟨_, hf⟩ := gok_facts h
    obtain ⟨k, a, b, c⟩ := g
    dsimp only at hf
    rcases hf with ⟨rfl, _, rfl, rfl⟩ | ⟨rfl | rfl, _, _, _, rfl⟩ | ⟨rfl | rfl, _, _, _, _⟩
    · exact k_gtI0 a h
    · exact k_gtI1 a b h
    · exact k_gtI3 a b h
    · exact k_gtI2 a b c h
    · exact k_gtI4 a b c h
theorem k_gtS (g : Gt) : Kon Tryd.prog 23 [gV g] [] (vS (gtx g)) [] [] := by
  unfold gtx
  have hV := k_gvS 8 g (by decide)
  cases h : gok 8 g with
  | false =>
    rw [h] at hV
    rw [if_neg (by decide)]
    (refine kon_mk T0ok (fn := Tryd.f23) (c := Tryd.f23.body.get rfl) Tryd.func23 rfl (by rfl) (by rfl) (by rfl) ?_; intro hfit hfe)
    (repeat (first | refine gq_DT ?_ | (refine ga_DT ?_; intro _hq)))
    ((try refine aw_ret ?_); refine ret_auto2 (by rfl) (by rfl) (by rfl) (by repeat (first | exact trivial | refine ⟨by first | rfl | omega, ?_⟩)) ?_ (by repeat (first | exact trivial | refine ⟨by rfl, by rfl, ?_⟩)) (by repeat (first | exact trivial | refine ⟨by rfl, by rfl, ?_⟩)); try rfl)
  | true =>
    rw [h] at hV
    rw [if_pos rfl]
    obtain ⟨_, hkk, ha, hb, hc⟩ := gok_bd h
    obtain ⟨_, hf⟩ := gok_facts h
    have hS := k_linesS g
    obtain ⟨k, a, b, c⟩ := g
    dsimp only at hf ha hb hc hkk hS
    have hK := k_kindS k hkk
    have l0 := gnm_len k
    have l1 : (decDigits a.toNat).length = 1 := dx_len (x := a) (by omega)
    have l2 : (decDigits b.toNat).length = 1 := dx_len (x := b) (by omega)
    have l3 : (decDigits c.toNat).length = 1 := dx_len (x := c) (by omega)
    have fin : ∀ L : List Int, lns ⟨k, a, b, c⟩ = L → Kon Tryd.prog 43 [gV ⟨k, a, b, c⟩] [] (slA 0 0 L) [iRow L] [] := fun L e => e ▸ hS
    clear hS
    rcases hf with ⟨rfl, _, rfl, rfl⟩ | ⟨rfl | rfl, _, _, _, rfl⟩ | ⟨rfl | rfl, _, _, _, _⟩
    · have hS := fin [a] rfl
      clear fin
      (refine kon_mk T0ok (fn := Tryd.f23) (c := Tryd.f23.body.get rfl) Tryd.func23 rfl (by rfl) (by rfl) (by rfl) ?_; intro hfit hfe)
      (repeat (first | refine gq_DT ?_ | (refine ga_DT ?_; intro _hq)))
      refine aw_unroll 4 ?_
      (repeat (first | refine gq_DT ?_ | (refine ga_DT ?_; intro _hq)))
      ((try refine aw_ret ?_); refine ret_auto2 (by rfl) (by rfl) (by rfl) (by repeat (first | exact trivial | refine ⟨by first | rfl | omega, ?_⟩)) ?_ (by repeat (first | exact trivial | refine ⟨by rfl, by rfl, ?_⟩)) (by repeat (first | exact trivial | refine ⟨by rfl, by rfl, ?_⟩)); try rfl)
    · have hS := fin [a, b] rfl
      clear fin
      (refine kon_mk T0ok (fn := Tryd.f23) (c := Tryd.f23.body.get rfl) Tryd.func23 rfl (by rfl) (by rfl) (by rfl) ?_; intro hfit hfe)
      (repeat (first | refine gq_DT ?_ | (refine ga_DT ?_; intro _hq)))
      refine aw_unroll 4 ?_
      (repeat (first | refine gq_DT ?_ | (refine ga_DT ?_; intro _hq)))
      ((try refine aw_ret ?_); refine ret_auto2 (by rfl) (by rfl) (by rfl) (by repeat (first | exact trivial | refine ⟨by first | rfl | omega, ?_⟩)) ?_ (by repeat (first | exact trivial | refine ⟨by rfl, by rfl, ?_⟩)) (by repeat (first | exact trivial | refine ⟨by rfl, by rfl, ?_⟩)); try rfl)
    · have hS := fin [a, b] rfl
      clear fin
      (refine kon_mk T0ok (fn := Tryd.f23) (c := Tryd.f23.body.get rfl) Tryd.func23 rfl (by rfl) (by rfl) (by rfl) ?_; intro hfit hfe)
      (repeat (first | refine gq_DT ?_ | (refine ga_DT ?_; intro _hq)))
      refine aw_unroll 4 ?_
      (repeat (first | refine gq_DT ?_ | (refine ga_DT ?_; intro _hq)))
      ((try refine aw_ret ?_); refine ret_auto2 (by rfl) (by rfl) (by rfl) (by repeat (first | exact trivial | refine ⟨by first | rfl | omega, ?_⟩)) ?_ (by repeat (first | exact trivial | refine ⟨by rfl, by rfl, ?_⟩)) (by repeat (first | exact trivial | refine ⟨by rfl, by rfl, ?_⟩)); try rfl)
    · have hS := fin [a, b, c] rfl
      clear fin
      (refine kon_mk T0ok (fn := Tryd.f23) (c := Tryd.f23.body.get rfl) Tryd.func23 rfl (by rfl) (by rfl) (by rfl) ?_; intro hfit hfe)
      (repeat (first | refine gq_DT ?_ | (refine ga_DT ?_; intro _hq)))
      refine aw_unroll 4 ?_
      (repeat (first | refine gq_DT ?_ | (refine ga_DT ?_; intro _hq)))
      ((try refine aw_ret ?_); refine ret_auto2 (by rfl) (by rfl) (by rfl) (by repeat (first | exact trivial | refine ⟨by first | rfl | omega, ?_⟩)) ?_ (by repeat (first | exact trivial | refine ⟨by rfl, by rfl, ?_⟩)) (by repeat (first | exact trivial | refine ⟨by rfl, by rfl, ?_⟩)); try rfl)
    · have hS := fin [a, b, c] rfl
      clear fin
      (refine kon_mk T0ok (fn := Tryd.f23) (c := Tryd.f23.body.get rfl) Tryd.func23 rfl (by rfl) (by rfl) (by rfl) ?_; intro hfit hfe)
      (repeat (first | refine gq_DT ?_ | (refine ga_DT ?_; intro _hq)))
      refine aw_unroll 4 ?_
      (repeat (first | refine gq_DT ?_ | (refine ga_DT ?_; intro _hq)))
      ((try refine aw_ret ?_); refine ret_auto2 (by rfl) (by rfl) (by rfl) (by repeat (first | exact trivial | refine ⟨by first | rfl | omega, ?_⟩)) ?_ (by repeat (first | exact trivial | refine ⟨by rfl, by rfl, ?_⟩)) (by repeat (first | exact trivial | refine ⟨by rfl, by rfl, ?_⟩)); try rfl)
end Go.Proofs.YtgphlcdinejmdaaDoor

/- Gates compared, deeds compared; deeds as cells. -/
namespace Go.Proofs.YtgphlcdinejmdaaDoor
set_option linter.unusedVariables false
set_option linter.unusedSimpArgs false
set_option maxRecDepth 20000
open Go.RowKit
def chk4 (ti : TypeId) : List Field → Bool
  | [f, f', f'', f3] => (f.name != "_") && (f.type == ti) && (f.offset == 0) && ((f'.name != "_") && (f'.type == ti) && (f'.offset == 1)) && ((f''.name != "_") && (f''.type == ti) && (f''.offset == 2)) && ((f3.name != "_") && (f3.type == ti) && (f3.offset == 3))
  | _ => false
theorem equal_gate (k a b c k' a' b' c' : Int) (w : World) : (Op.equalIn 10000 27 (.agg #[.int .i64 k, .int .i64 a, .int .i64 b, .int .i64 c]) (.agg #[.int .i64 k', .int .i64 a', .int .i64 b', .int .i64 c'])).run Tryd.prog w = .ok (k == k' && (a == a' && (b == b' && c == c'))) w := by
  rw [run_equalIn_agg (ht := by kernel_rfl) (hp := by kernel_rfl)]
  have hc : chk4 3 (Tryd.prog.fieldsOf 27).toList = true := by kernel_rfl
  have hi : Tryd.prog.underlying 3 = some (.int .i64) := by kernel_rfl
  have hz : ∀ (xs : Array Value) (k : Nat) (v : Value) (w : World), xs[k]? = some v → (part 3 xs k).run Tryd.prog w = .ok v w := fun xs k v w h => run_part_plain w (by kernel_rfl) h
  have z0 := fun w => hz #[.int .i64 k, .int .i64 a, .int .i64 b, .int .i64 c] 0 _ w rfl
  have y0 := fun w => hz #[.int .i64 k', .int .i64 a', .int .i64 b', .int .i64 c'] 0 _ w rfl
  have z1 := fun w => hz #[.int .i64 k, .int .i64 a, .int .i64 b, .int .i64 c] 1 _ w rfl
  have y1 := fun w => hz #[.int .i64 k', .int .i64 a', .int .i64 b', .int .i64 c'] 1 _ w rfl
  have z2 := fun w => hz #[.int .i64 k, .int .i64 a, .int .i64 b, .int .i64 c] 2 _ w rfl
  have y2 := fun w => hz #[.int .i64 k', .int .i64 a', .int .i64 b', .int .i64 c'] 2 _ w rfl
  have z3 := fun w => hz #[.int .i64 k, .int .i64 a, .int .i64 b, .int .i64 c] 3 _ w rfl
  have y3 := fun w => hz #[.int .i64 k', .int .i64 a', .int .i64 b', .int .i64 c'] 3 _ w rfl
  have e : ∀ (x y : Int) w, (Op.equalIn 9999 3 (.int .i64 x) (.int .i64 y)).run Tryd.prog w = .ok (x == y) w := fun x y w => run_equalIn_int (P := Tryd.prog) w 9998 3 .i64 .i64 x y hi
  clear hz
  generalize (Tryd.prog.fieldsOf 27).toList = fs at hc ⊢
  unfold chk4 at hc
  split at hc
  · rename_i f f' f'' f3
    simp only [Bool.and_eq_true, bne_iff_ne, beq_iff_eq] at hc
    obtain ⟨⟨⟨⟨⟨h1, h2⟩, h3⟩, ⟨⟨h4, h5⟩, h6⟩⟩, ⟨⟨h7, h8⟩, h9⟩⟩, ⟨⟨g1, g2⟩, g3⟩⟩ := hc
    simp only [Op.eqFields, h1, h2, h3, h4, h5, h6, h7, h8, h9, g1, g2, g3, if_true, ne_eq, not_false_eq_true, Sem.run_bind, z0, y0, Result.andThen_ok]
    erw [e k k' w]
    cases (k == k')
    · rfl
    simp only [Result.andThen_ok, Bool.not_true, Bool.false_eq_true, if_false, Sem.run_bind, z1, y1]
    erw [e a a' w]
    cases (a == a')
    · rfl
    simp only [Result.andThen_ok, Bool.not_true, Bool.false_eq_true, if_false, Sem.run_bind, z2, y2]
    erw [e b b' w]
    cases (b == b')
    · rfl
    simp only [Result.andThen_ok, Bool.not_true, Bool.false_eq_true, if_false, Sem.run_bind, z3, y3]
    erw [e c c' w]
    cases (c == c') <;> rfl
  · cases hc
theorem eq_gate (x y : Operand) (k a b c k' a' b' c' : Int) (w : World) : (do eqGuard .eql 27 x y (.agg #[.int .i64 k, .int .i64 a, .int .i64 b, .int .i64 c]) (.agg #[.int .i64 k', .int .i64 a', .int .i64 b', .int .i64 c']); binOp .eql 27 (.agg #[.int .i64 k, .int .i64 a, .int .i64 b, .int .i64 c]) (.agg #[.int .i64 k', .int .i64 a', .int .i64 b', .int .i64 c']) : Sem Value).run Tryd.prog w = .ok (.bool (k == k' && (a == a' && (b == b' && c == c')))) w := by
  rw [Sem.run_bind, run_eqGuard_agg (hm := by kernel_rfl)]
  simp only [Result.andThen_ok]
  rw [run_eql_struct, equal_gate]; rfl
end Go.Proofs.YtgphlcdinejmdaaDoor

/- Deeds as cells, deeds compared. -/
namespace Go.Proofs.YtgphlcdinejmdaaDoor
set_option linter.unusedVariables false
set_option linter.unusedSimpArgs false
set_option maxRecDepth 20000
open Go.RowKit
/-- A deed. -/
structure Dd where
  k : Int
  n : Int
  p : Gt
instance : Cel Dd where
  f d := [.int .i64 d.k, .int .i64 d.n, .int .i64 d.p.k, .int .i64 d.p.a, .int .i64 d.p.b, .int .i64 d.p.c]
  un vs := match vs with
    | [.int .i64 x, .int .i64 y, .int .i64 k, .int .i64 a, .int .i64 b, .int .i64 c] => some ⟨x, y, ⟨k, a, b, c⟩⟩
    | _ => none
  sz := 6
  no := ⟨0, 0, ⟨0, 0, 0, 0⟩⟩
  pos := by omega
  len _ := rfl
  one _ := rfl
  unf vs a h := by
    split at h
    · cases h; rfl
    · cases h
abbrev dCs (d : Dd) : List AC := [.v (.int .i64 d.k), .v (.int .i64 d.n), .v (.int .i64 d.p.k), .v (.int .i64 d.p.a), .v (.int .i64 d.p.b), .v (.int .i64 d.p.c)]
abbrev dV (d : Dd) : AV := .g (.agg (dCs d))
abbrev dRow (l : List Dd) : Ent := rwE 29 l
theorem equal_gate9 (k a b c k' a' b' c' : Int) (w : World) : (Op.equalIn 9999 27 (.agg #[.int .i64 k, .int .i64 a, .int .i64 b, .int .i64 c]) (.agg #[.int .i64 k', .int .i64 a', .int .i64 b', .int .i64 c'])).run Tryd.prog w = .ok (k == k' && (a == a' && (b == b' && c == c'))) w := by
  rw [run_equalIn_agg (ht := by kernel_rfl) (hp := by kernel_rfl)]
  have hc : chk4 3 (Tryd.prog.fieldsOf 27).toList = true := by kernel_rfl
  have hi : Tryd.prog.underlying 3 = some (.int .i64) := by kernel_rfl
  have hz : ∀ (xs : Array Value) (k : Nat) (v : Value) (w : World), xs[k]? = some v → (part 3 xs k).run Tryd.prog w = .ok v w := fun xs k v w h => run_part_plain w (by kernel_rfl) h
  have z0 := fun w => hz #[.int .i64 k, .int .i64 a, .int .i64 b, .int .i64 c] 0 _ w rfl
  have y0 := fun w => hz #[.int .i64 k', .int .i64 a', .int .i64 b', .int .i64 c'] 0 _ w rfl
  have z1 := fun w => hz #[.int .i64 k, .int .i64 a, .int .i64 b, .int .i64 c] 1 _ w rfl
  have y1 := fun w => hz #[.int .i64 k', .int .i64 a', .int .i64 b', .int .i64 c'] 1 _ w rfl
  have z2 := fun w => hz #[.int .i64 k, .int .i64 a, .int .i64 b, .int .i64 c] 2 _ w rfl
  have y2 := fun w => hz #[.int .i64 k', .int .i64 a', .int .i64 b', .int .i64 c'] 2 _ w rfl
  have z3 := fun w => hz #[.int .i64 k, .int .i64 a, .int .i64 b, .int .i64 c] 3 _ w rfl
  have y3 := fun w => hz #[.int .i64 k', .int .i64 a', .int .i64 b', .int .i64 c'] 3 _ w rfl
  have e : ∀ (x y : Int) w, (Op.equalIn 9998 3 (.int .i64 x) (.int .i64 y)).run Tryd.prog w = .ok (x == y) w := fun x y w => run_equalIn_int (P := Tryd.prog) w 9997 3 .i64 .i64 x y hi
  clear hz
  generalize (Tryd.prog.fieldsOf 27).toList = fs at hc ⊢
  unfold chk4 at hc
  split at hc
  · rename_i f f' f'' f3
    simp only [Bool.and_eq_true, bne_iff_ne, beq_iff_eq] at hc
    obtain ⟨⟨⟨⟨⟨h1, h2⟩, h3⟩, ⟨⟨h4, h5⟩, h6⟩⟩, ⟨⟨h7, h8⟩, h9⟩⟩, ⟨⟨g1, g2⟩, g3⟩⟩ := hc
    simp only [Op.eqFields, h1, h2, h3, h4, h5, h6, h7, h8, h9, g1, g2, g3, if_true, ne_eq, not_false_eq_true, Sem.run_bind, z0, y0, Result.andThen_ok]
    erw [e k k' w]
    cases (k == k')
    · rfl
    simp only [Result.andThen_ok, Bool.not_true, Bool.false_eq_true, if_false, Sem.run_bind, z1, y1]
    erw [e a a' w]
    cases (a == a')
    · rfl
    simp only [Result.andThen_ok, Bool.not_true, Bool.false_eq_true, if_false, Sem.run_bind, z2, y2]
    erw [e b b' w]
    cases (b == b')
    · rfl
    simp only [Result.andThen_ok, Bool.not_true, Bool.false_eq_true, if_false, Sem.run_bind, z3, y3]
    erw [e c c' w]
    cases (c == c') <;> rfl
  · cases hc
def chk3 (ti tg : TypeId) : List Field → Bool
  | [f, f', f''] => (f.name != "_") && (f.type == ti) && (f.offset == 0) && ((f'.name != "_") && (f'.type == ti) && (f'.offset == 1)) && ((f''.name != "_") && (f''.type == tg) && (f''.offset == 2))
  | _ => false
abbrev dA (k n g a b c : Int) : Value := .agg #[.int .i64 k, .int .i64 n, .int .i64 g, .int .i64 a, .int .i64 b, .int .i64 c]
theorem equal_deed (k n g a b c k' n' g' a' b' c' : Int) (w : World) : (Op.equalIn 10000 29 (dA k n g a b c) (dA k' n' g' a' b' c')).run Tryd.prog w = .ok (k == k' && (n == n' && (g == g' && (a == a' && (b == b' && c == c'))))) w := by
  rw [run_equalIn_agg (ht := by kernel_rfl) (hp := by kernel_rfl)]
  have hc : chk3 3 27 (Tryd.prog.fieldsOf 29).toList = true := by kernel_rfl
  have hi : Tryd.prog.underlying 3 = some (.int .i64) := by kernel_rfl
  have hz : ∀ (xs : Array Value) (k : Nat) (v : Value) (w : World), xs[k]? = some v → (part 3 xs k).run Tryd.prog w = .ok v w := fun xs k v w h => run_part_plain w (by kernel_rfl) h
  have z0 := fun w => hz #[.int .i64 k, .int .i64 n, .int .i64 g, .int .i64 a, .int .i64 b, .int .i64 c] 0 _ w rfl
  have y0 := fun w => hz #[.int .i64 k', .int .i64 n', .int .i64 g', .int .i64 a', .int .i64 b', .int .i64 c'] 0 _ w rfl
  have z1 := fun w => hz #[.int .i64 k, .int .i64 n, .int .i64 g, .int .i64 a, .int .i64 b, .int .i64 c] 1 _ w rfl
  have y1 := fun w => hz #[.int .i64 k', .int .i64 n', .int .i64 g', .int .i64 a', .int .i64 b', .int .i64 c'] 1 _ w rfl
  have z2 : ∀ w, (part 27 #[.int .i64 k, .int .i64 n, .int .i64 g, .int .i64 a, .int .i64 b, .int .i64 c] 2).run Tryd.prog w = .ok (.agg #[.int .i64 g, .int .i64 a, .int .i64 b, .int .i64 c]) w := fun w => by kernel_rfl
  have y2 : ∀ w, (part 27 #[.int .i64 k', .int .i64 n', .int .i64 g', .int .i64 a', .int .i64 b', .int .i64 c'] 2).run Tryd.prog w = .ok (.agg #[.int .i64 g', .int .i64 a', .int .i64 b', .int .i64 c']) w := fun w => by kernel_rfl
  have e : ∀ (x y : Int) w, (Op.equalIn 9999 3 (.int .i64 x) (.int .i64 y)).run Tryd.prog w = .ok (x == y) w := fun x y w => run_equalIn_int (P := Tryd.prog) w 9998 3 .i64 .i64 x y hi
  clear hz
  generalize (Tryd.prog.fieldsOf 29).toList = fs at hc ⊢
  unfold chk3 at hc
  split at hc
  · rename_i f f' f''
    simp only [Bool.and_eq_true, bne_iff_ne, beq_iff_eq] at hc
    obtain ⟨⟨⟨⟨h1, h2⟩, h3⟩, ⟨⟨h4, h5⟩, h6⟩⟩, ⟨⟨h7, h8⟩, h9⟩⟩ := hc
    simp only [Op.eqFields, h1, h2, h3, h4, h5, h6, h7, h8, h9, if_true, ne_eq, not_false_eq_true, Sem.run_bind, z0, y0, Result.andThen_ok]
    erw [e k k' w]
    cases (k == k')
    · rfl
    simp only [Result.andThen_ok, Bool.not_true, Bool.false_eq_true, if_false, Sem.run_bind, z1, y1]
    erw [e n n' w]
    cases (n == n')
    · rfl
    simp only [Result.andThen_ok, Bool.not_true, Bool.false_eq_true, if_false, Sem.run_bind, z2, y2]
    erw [equal_gate9 g a b c g' a' b' c' w]
    cases (g == g' && (a == a' && (b == b' && c == c'))) <;> rfl
  · cases hc
theorem eq_deed (x y : Operand) (k n g a b c k' n' g' a' b' c' : Int) (w : World) : (do eqGuard .eql 29 x y (dA k n g a b c) (dA k' n' g' a' b' c'); binOp .eql 29 (dA k n g a b c) (dA k' n' g' a' b' c') : Sem Value).run Tryd.prog w = .ok (.bool (k == k' && (n == n' && (g == g' && (a == a' && (b == b' && c == c')))))) w := by
  rw [Sem.run_bind, run_eqGuard_agg (hm := by kernel_rfl)]
  simp only [Result.andThen_ok]
  rw [run_eql_struct, equal_deed]; rfl
end Go.Proofs.YtgphlcdinejmdaaDoor

/- spec.l10Named. -/
namespace Go.Proofs.YtgphlcdinejmdaaDoor
set_option linter.unusedVariables false
set_option linter.unusedSimpArgs false
set_option maxRecDepth 20000
open Go.RowKit
attribute [local irreducible] runA runX AW
theorem gq_DM {H G : Prop} (k : H) (h : Hid H → G := by (intro hh; (first | (first | ((first | refine r_none ?_ | refine r_gt (by rfl) (by rfl) (by first | rfl | assumption | omega | (simp only [*, Bool.not_false, Bool.not_true]; first | done | fail) | (simp [*]; first | done | fail)) (by rfl) ?_ | refine r_gf (by rfl) (by rfl) (by first | rfl | assumption | omega | (simp only [*, Bool.not_false, Bool.not_true]; first | done | fail) | (simp [*]; first | done | fail)) (by rfl) ?_); (first | fail | ((first | (refine z_op (by rfl) ?_; first | refine z_ok ?_ ?_ | refine z_ex ?_ (by first | exact ft_raw rfl rfl | ((first | refine ft_rp rfl rfl rfl ?_ | refine ft_row rfl rfl rfl ?_ | refine ft_rpF rfl rfl rfl ?_ | refine ft_rowF rfl rfl rfl ?_ | refine up_row rfl rfl ?_ | refine up_rowF rfl rfl rfl ?_ | refine ct_0 rfl ?_ | refine ct_r rfl rfl ?_ | refine ct_c rfl rfl rfl ?_ | refine cu_all rfl ?_ | refine cu_to rfl ?_ | refine cu_from rfl ?_ | refine cu_p rfl ?_ | fail); (first | omega | (simp only [List.length_append, List.length_replicate, List.length_cons, List.length_nil, List.length_set, List.length_take, List.length_drop, true_and]; omega))) | exact up_raw rfl | exact pk_t (by first | rfl | assumption | omega | (simp only [*, Bool.not_false, Bool.not_true]; first | done | fail) | (simp [*]; first | done | fail)) rfl | exact pk_f (by first | rfl | assumption | omega | (simp only [*, Bool.not_false, Bool.not_true]; first | done | fail) | (simp [*]; first | done | fail)) rfl | fail | exact rw_raw | exact pu_cv (fun w => rfl) (by omega) | exact pu_of (fun w => rfl) rfl | exact be_of (fun w => rfl) | exact nc_of (fun _ _ _ _ => rfl) rfl | exact bu_of (fun w => rfl) rfl | (first | exact pu_of (fun w => eq_gate _ _ _ _ _ _ _ _ _ _ w) rfl)) ?_) | ((first | refine q_callE wsT wsZ (by rfl) ?_ | refine q_callVE wsT (by rfl) (by rfl) ?_); refine ⟨_, _, _, (by first | assumption), _, by rfl, ?_, ?_⟩)); focus (first | exact trivial | fail | exact rfl | (first | omega | (simp only [List.length_append, List.length_replicate, List.length_cons, List.length_nil, List.length_set, List.length_take, List.length_drop, true_and]; omega)) | exact cvB (fun w => rfl) | ((repeat' (first | exact rfl | exact cV_len _ | exact cV_ln rfl (by omega) | exact Cel.pos | omega | exact trivial | refine And.intro ?_ ?_)); done) | (simp [*]; done) | (simp; omega))) | fail)) | refine r_nt (by rfl) (by rfl) (by first | rfl | assumption | omega | (simp only [*, Bool.not_false, Bool.not_true]; first | done | fail) | (simp [*]; first | done | fail)) (by rfl) ?_ | refine r_nf (by rfl) (by rfl) (by first | rfl | assumption | omega | (simp only [*, Bool.not_false, Bool.not_true]; first | done | fail) | (simp [*]; first | done | fail)) (by rfl) ?_ | refine r_gu (by rfl) (by rfl) (by rfl) ?_ | refine r_nil ?_) | (first | refine aw_seq ?_ | refine aw_ct (by rfl) (by first | rfl | assumption | omega | (simp only [*, Bool.not_false, Bool.not_true]; first | done | fail) | (simp [*]; first | done | fail)) ?_ | refine aw_cf (by rfl) (by first | rfl | assumption | omega | (simp only [*, Bool.not_false, Bool.not_true]; first | done | fail) | (simp [*]; first | done | fail)) ?_ | refine aw_block ?_ | refine aw_region T0ok cfU_ok (by rfl) ?_ | refine aw_skip ?_ | refine aw_exit ?_ | refine ra_step ?_)); (repeat (first | (first | ((first | refine r_none ?_ | refine r_gt (by rfl) (by rfl) (by first | rfl | assumption | omega | (simp only [*, Bool.not_false, Bool.not_true]; first | done | fail) | (simp [*]; first | done | fail)) (by rfl) ?_ | refine r_gf (by rfl) (by rfl) (by first | rfl | assumption | omega | (simp only [*, Bool.not_false, Bool.not_true]; first | done | fail) | (simp [*]; first | done | fail)) (by rfl) ?_); (first | fail | ((first | (refine z_op (by rfl) ?_; first | refine z_ok ?_ ?_ | refine z_ex ?_ (by first | exact ft_raw rfl rfl | ((first | refine ft_rp rfl rfl rfl ?_ | refine ft_row rfl rfl rfl ?_ | refine ft_rpF rfl rfl rfl ?_ | refine ft_rowF rfl rfl rfl ?_ | refine up_row rfl rfl ?_ | refine up_rowF rfl rfl rfl ?_ | refine ct_0 rfl ?_ | refine ct_r rfl rfl ?_ | refine ct_c rfl rfl rfl ?_ | refine cu_all rfl ?_ | refine cu_to rfl ?_ | refine cu_from rfl ?_ | refine cu_p rfl ?_ | fail); (first | omega | (simp only [List.length_append, List.length_replicate, List.length_cons, List.length_nil, List.length_set, List.length_take, List.length_drop, true_and]; omega))) | exact up_raw rfl | exact pk_t (by first | rfl | assumption | omega | (simp only [*, Bool.not_false, Bool.not_true]; first | done | fail) | (simp [*]; first | done | fail)) rfl | exact pk_f (by first | rfl | assumption | omega | (simp only [*, Bool.not_false, Bool.not_true]; first | done | fail) | (simp [*]; first | done | fail)) rfl | fail | exact rw_raw | exact pu_cv (fun w => rfl) (by omega) | exact pu_of (fun w => rfl) rfl | exact be_of (fun w => rfl) | exact nc_of (fun _ _ _ _ => rfl) rfl | exact bu_of (fun w => rfl) rfl | (first | exact pu_of (fun w => eq_gate _ _ _ _ _ _ _ _ _ _ w) rfl)) ?_) | ((first | refine q_callE wsT wsZ (by rfl) ?_ | refine q_callVE wsT (by rfl) (by rfl) ?_); refine ⟨_, _, _, (by first | assumption), _, by rfl, ?_, ?_⟩)); focus (first | exact trivial | fail | exact rfl | (first | omega | (simp only [List.length_append, List.length_replicate, List.length_cons, List.length_nil, List.length_set, List.length_take, List.length_drop, true_and]; omega)) | exact cvB (fun w => rfl) | ((repeat' (first | exact rfl | exact cV_len _ | exact cV_ln rfl (by omega) | exact Cel.pos | omega | exact trivial | refine And.intro ?_ ?_)); done) | (simp [*]; done) | (simp; omega))) | fail)) | refine r_nt (by rfl) (by rfl) (by first | rfl | assumption | omega | (simp only [*, Bool.not_false, Bool.not_true]; first | done | fail) | (simp [*]; first | done | fail)) (by rfl) ?_ | refine r_nf (by rfl) (by rfl) (by first | rfl | assumption | omega | (simp only [*, Bool.not_false, Bool.not_true]; first | done | fail) | (simp [*]; first | done | fail)) (by rfl) ?_ | refine r_gu (by rfl) (by rfl) (by rfl) ?_ | refine r_nil ?_) | (first | refine aw_seq ?_ | refine aw_ct (by rfl) (by first | rfl | assumption | omega | (simp only [*, Bool.not_false, Bool.not_true]; first | done | fail) | (simp [*]; first | done | fail)) ?_ | refine aw_cf (by rfl) (by first | rfl | assumption | omega | (simp only [*, Bool.not_false, Bool.not_true]; first | done | fail) | (simp [*]; first | done | fail)) ?_ | refine aw_block ?_ | refine aw_region T0ok cfU_ok (by rfl) ?_ | refine aw_skip ?_ | refine aw_exit ?_ | refine ra_step ?_))); exact hh.out)) : G := h ⟨k⟩
theorem ga_DM {H G : Prop} (k : H) (h : Hid H → G := by (intro hh; (first | refine r_none ?_ | refine r_gt (by rfl) (by rfl) (by first | rfl | assumption | omega | (simp only [*, Bool.not_false, Bool.not_true]; first | done | fail) | (simp [*]; first | done | fail)) (by rfl) ?_ | refine r_gf (by rfl) (by rfl) (by first | rfl | assumption | omega | (simp only [*, Bool.not_false, Bool.not_true]; first | done | fail) | (simp [*]; first | done | fail)) (by rfl) ?_); refine z_op (by rfl) ?_; refine z_al ?_ hh.out; focus (first | exact trivial | fail | exact rfl | (first | omega | (simp only [List.length_append, List.length_replicate, List.length_cons, List.length_nil, List.length_set, List.length_take, List.length_drop, true_and]; omega)) | exact cvB (fun w => rfl) | ((repeat' (first | exact rfl | exact cV_len _ | exact cV_ln rfl (by omega) | exact Cel.pos | omega | exact trivial | refine And.intro ?_ ?_)); done) | (simp [*]; done) | (simp; omega)))) : G := h ⟨k⟩
/-- What is said of a deed. -/
def nmD (d : Dd) : Bool :=
  if d.k = 0 ∨ d.k = 1 then (d.p.k == 0 && (d.p.a == 0 && (d.p.b == 0 && d.p.c == 0)))
  else if d.k = 2 then d.n == 0
  else if d.k = 3 ∨ d.k = 4 then d.n == 0 && (d.p.k == 0 && (d.p.a == 0 && (d.p.b == 0 && d.p.c == 0)))
  else false
theorem k_named0 (d : Dd) (h : d.k = 0) : Kon Tryd.prog 22 [dV d] [] (vB (nmD d)) [] [] := by
  obtain ⟨k, n, p⟩ := d
  obtain rfl : k = 0 := h
  (refine kon_mk T0ok (fn := Tryd.f22) (c := Tryd.f22.body.get rfl) Tryd.func22 rfl (by rfl) (by rfl) (by rfl) ?_; intro hfit hfe)
  (repeat (first | refine gq_DM ?_ | (refine ga_DM ?_; intro _q ⟨_he, _hq⟩)))
  ((try refine aw_ret ?_); refine ret_auto2 (by rfl) (by rfl) (by rfl) (by repeat (first | exact trivial | refine ⟨by first | rfl | omega, ?_⟩)) ?_ (by repeat (first | exact trivial | refine ⟨by rfl, by rfl, ?_⟩)) (by repeat (first | exact trivial | refine ⟨by rfl, by rfl, ?_⟩)); try rfl)
theorem k_named1 (d : Dd) (h : d.k = 1) : Kon Tryd.prog 22 [dV d] [] (vB (nmD d)) [] [] := by
  obtain ⟨k, n, p⟩ := d
  obtain rfl : k = 1 := h
  (refine kon_mk T0ok (fn := Tryd.f22) (c := Tryd.f22.body.get rfl) Tryd.func22 rfl (by rfl) (by rfl) (by rfl) ?_; intro hfit hfe)
  (repeat (first | refine gq_DM ?_ | (refine ga_DM ?_; intro _q ⟨_he, _hq⟩)))
  ((try refine aw_ret ?_); refine ret_auto2 (by rfl) (by rfl) (by rfl) (by repeat (first | exact trivial | refine ⟨by first | rfl | omega, ?_⟩)) ?_ (by repeat (first | exact trivial | refine ⟨by rfl, by rfl, ?_⟩)) (by repeat (first | exact trivial | refine ⟨by rfl, by rfl, ?_⟩)); try rfl)
theorem k_named2 (d : Dd) (h : d.k = 2) : Kon Tryd.prog 22 [dV d] [] (vB (nmD d)) [] [] := by
  obtain ⟨k, n, p⟩ := d
  obtain rfl : k = 2 := h
  (refine kon_mk T0ok (fn := Tryd.f22) (c := Tryd.f22.body.get rfl) Tryd.func22 rfl (by rfl) (by rfl) (by rfl) ?_; intro hfit hfe)
  (repeat (first | refine gq_DM ?_ | (refine ga_DM ?_; intro _q ⟨_he, _hq⟩)))
  ((try refine aw_ret ?_); refine ret_auto2 (by rfl) (by rfl) (by rfl) (by repeat (first | exact trivial | refine ⟨by first | rfl | omega, ?_⟩)) ?_ (by repeat (first | exact trivial | refine ⟨by rfl, by rfl, ?_⟩)) (by repeat (first | exact trivial | refine ⟨by rfl, by rfl, ?_⟩)); try rfl)
theorem k_named3 (d : Dd) (h : d.k = 3) : Kon Tryd.prog 22 [dV d] [] (vB (nmD d)) [] [] := by
  obtain ⟨k, n, p⟩ := d
  obtain rfl : k = 3 := h
  cases hx : (n == 0) with
  | true =>
    have e : nmD ⟨3, n, p⟩ = (p.k == 0 && (p.a == 0 && (p.b == 0 && p.c == 0))) := by simp [nmD, hx]
    rw [e]
    (refine kon_mk T0ok (fn := Tryd.f22) (c := Tryd.f22.body.get rfl) Tryd.func22 rfl (by rfl) (by rfl) (by rfl) ?_; intro hfit hfe)
    (repeat (first | refine gq_DM ?_ | (refine ga_DM ?_; intro _q ⟨_he, _hq⟩)))
    ((try refine aw_ret ?_); refine ret_auto2 (by rfl) (by rfl) (by rfl) (by repeat (first | exact trivial | refine ⟨by first | rfl | omega, ?_⟩)) ?_ (by repeat (first | exact trivial | refine ⟨by rfl, by rfl, ?_⟩)) (by repeat (first | exact trivial | refine ⟨by rfl, by rfl, ?_⟩)); try rfl)
  | false =>
    have e : nmD ⟨3, n, p⟩ = false := by simp [nmD, hx]
    rw [e]
    (refine kon_mk T0ok (fn := Tryd.f22) (c := Tryd.f22.body.get rfl) Tryd.func22 rfl (by rfl) (by rfl) (by rfl) ?_; intro hfit hfe)
    (repeat (first | refine gq_DM ?_ | (refine ga_DM ?_; intro _q ⟨_he, _hq⟩)))
    ((try refine aw_ret ?_); refine ret_auto2 (by rfl) (by rfl) (by rfl) (by repeat (first | exact trivial | refine ⟨by first | rfl | omega, ?_⟩)) ?_ (by repeat (first | exact trivial | refine ⟨by rfl, by rfl, ?_⟩)) (by repeat (first | exact trivial | refine ⟨by rfl, by rfl, ?_⟩)); try rfl)
theorem k_named4 (d : Dd) (h : d.k = 4) : Kon Tryd.prog 22 [dV d] [] (vB (nmD d)) [] [] := by
  obtain ⟨k, n, p⟩ := d
  obtain rfl : k = 4 := h
  cases hx : (n == 0) with
  | true =>
    have e : nmD ⟨4, n, p⟩ = (p.k == 0 && (p.a == 0 && (p.b == 0 && p.c == 0))) := by simp [nmD, hx]
    rw [e]
    (refine kon_mk T0ok (fn := Tryd.f22) (c := Tryd.f22.body.get rfl) Tryd.func22 rfl (by rfl) (by rfl) (by rfl) ?_; intro hfit hfe)
    (repeat (first | refine gq_DM ?_ | (refine ga_DM ?_; intro _q ⟨_he, _hq⟩)))
    ((try refine aw_ret ?_); refine ret_auto2 (by rfl) (by rfl) (by rfl) (by repeat (first | exact trivial | refine ⟨by first | rfl | omega, ?_⟩)) ?_ (by repeat (first | exact trivial | refine ⟨by rfl, by rfl, ?_⟩)) (by repeat (first | exact trivial | refine ⟨by rfl, by rfl, ?_⟩)); try rfl)
  | false =>
    have e : nmD ⟨4, n, p⟩ = false := by simp [nmD, hx]
    rw [e]
    (refine kon_mk T0ok (fn := Tryd.f22) (c := Tryd.f22.body.get rfl) Tryd.func22 rfl (by rfl) (by rfl) (by rfl) ?_; intro hfit hfe)
    (repeat (first | refine gq_DM ?_ | (refine ga_DM ?_; intro _q ⟨_he, _hq⟩)))
    ((try refine aw_ret ?_); refine ret_auto2 (by rfl) (by rfl) (by rfl) (by repeat (first | exact trivial | refine ⟨by first | rfl | omega, ?_⟩)) ?_ (by repeat (first | exact trivial | refine ⟨by rfl, by rfl, ?_⟩)) (by repeat (first | exact trivial | refine ⟨by rfl, by rfl, ?_⟩)); try rfl)
theorem k_namedX (d : Dd) (h : d.k < 0 ∨ 4 < d.k) : Kon Tryd.prog 22 [dV d] [] (vB false) [] [] := by
  obtain ⟨k, n, p⟩ := d
  dsimp only at h
  have h0 : (k == 0) = false := by rw [beq_eq_false_iff_ne]; omega
  have h1 : (k == 1) = false := by rw [beq_eq_false_iff_ne]; omega
  have h2 : (k == 2) = false := by rw [beq_eq_false_iff_ne]; omega
  have h3 : (k == 3) = false := by rw [beq_eq_false_iff_ne]; omega
  have h4 : (k == 4) = false := by rw [beq_eq_false_iff_ne]; omega
  (refine kon_mk T0ok (fn := Tryd.f22) (c := Tryd.f22.body.get rfl) Tryd.func22 rfl (by rfl) (by rfl) (by rfl) ?_; intro hfit hfe)
  (repeat (first | refine gq_DM ?_ | (refine ga_DM ?_; intro _q ⟨_he, _hq⟩)))
  ((try refine aw_ret ?_); refine ret_auto2 (by rfl) (by rfl) (by rfl) (by repeat (first | exact trivial | refine ⟨by first | rfl | omega, ?_⟩)) ?_ (by repeat (first | exact trivial | refine ⟨by rfl, by rfl, ?_⟩)) (by repeat (first | exact trivial | refine ⟨by rfl, by rfl, ?_⟩)); try rfl)
end Go.Proofs.YtgphlcdinejmdaaDoor
